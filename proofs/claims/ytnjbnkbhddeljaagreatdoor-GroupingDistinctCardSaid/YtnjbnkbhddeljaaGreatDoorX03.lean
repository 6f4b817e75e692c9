/- A part of the proof: AeV3, AeV4, AeV5, AeV6, AeW1, AeW2, AeW3, AeW4, AeW5, AeW6, AeW7, AeW8, AeW9, AeWA, AeWB, AeWC. -/
import Derived.Test.YtnjbnkbhddeljaaGreatDoorX02
import Derived.IntWalk
import Derived.Laws.Strings
set_option linter.unusedVariables false
set_option maxRecDepth 100000
namespace Go.AE
variable {P : Program} {c x y : Code} {t : VTm} {s : VSt}
def VTm.put (t : VTm) (dst : Option Nat) (p : PV) : Option VTm :=
 match dst with
 | none => some t
 | some d => if d < t.n then some ⟨t.n, fun k => if k = d then p else t.m k⟩ else none
theorem TmV.put {H : St} {X : Nat → Prop} {T : Tm} (h : TmV H X t T) {dst : Option Nat} {p : PV} {v : Value} (hv : DV H X p v) {t' : VTm} (hp : t.put dst p = some t') :
    ∃ T', T.put dst v = some T' ∧ TmV H X t' T' := by
 cases dst with
 | none => simp only [VTm.put, Option.some.injEq] at hp; subst hp; exact ⟨T, rfl, h⟩
 | some d =>
  simp only [VTm.put] at hp
  by_cases hd : d < t.n
  ·rw [if_pos hd] at hp
   simp only [Option.some.injEq] at hp; subst hp
   have hb : Nat.blt d T.n = true := Nat.ble_eq_true_of_le (by rw [← h.1]; exact hd)
   refine ⟨⟨T.n, T.m.set d v⟩, by simp only [Tm.put, hb, cond_true], h.1, fun k => ?_⟩
   dsimp only
   rw [Tr.get_set]
   by_cases e : k = d
   ·rw [if_pos e, if_pos e]; exact hv
   ·rw [if_neg e, if_neg e]; exact h.2 k
  ·rw [if_neg hd] at hp; cases hp
def zCO (ops : Array Oper) (t : VTm) (o : Oper) : Option Bool :=
 match o.guard with
 | none => some true
 | some (j, want) =>
  match (ops[j]?).bind (·.dst) with
  | some d => match t.m d with | .sc (.bool b) => some (b == want) | _ => none
  | none => none
theorem guard_sound {H : St} {X : Nat → Prop} {T : Tm} (h : TmV H X t T) {ops : Array Oper} {o : Oper} {b : Bool} (hg : zCO ops t o = some b) : zCA ops T o = b := by
 unfold zCO at hg
 unfold zCA
 split at hg
 ·rename_i e; rw [e]; simp only [Option.some.injEq] at hg; exact hg
 ·rename_i j want e
  rw [e]
  dsimp only
  split at hg
  ·rename_i d hd
   rw [hd]
   dsimp only
   split at hg
   ·rename_i b0 hb
    have hv := h.2 d
    rw [hb] at hv
    simp only [Option.some.injEq] at hg
    cases hm : T.m.get d with
    | none => rw [hm] at hv; cases hv
    | some y =>
     rw [hm] at hv
     have : y = .bool b0 := by
      generalize hy : (some y).getD undef = z at hv
      cases hv
      exact hy
     subst this
     exact hg
   ·cases hg
  ·cases hg
def OpV (P : Program) (s : VSt) (t : VTm) (o : Oper) (p : PV) (s1 : VSt) : Prop :=
 ∀ ⦃H : St⦄ ⦃T : Tm⦄, SatV s H → TmV H (Own' s) t T → ∃ v H1, H.op P T o = some (.val v, H1) ∧ SatV s1 H1 ∧ DV H1 (Own' s1) p v ∧ Fr s H s1 H1
def OpE (P : Program) (s : VSt) (t : VTm) (o : Oper) (f : FuncId) (args : List PV) : Prop :=
 ∀ ⦃H : St⦄ ⦃T : Tm⦄, SatV s H → TmV H (Own' s) t T → ∃ vs, H.op P T o = some (.enter f vs, H) ∧ DVs H (Own' s) args vs
def VSt.to (s : VSt) (n : Nat) : VSt := { s with next := n }
def zB1 (P : Program) (f : FuncId) (args : List PV) (r : PV) : Prop := ∀ s, VCall P f args s fun p s' => p = r ∧ ∃ n, s.next ≤ n ∧ s' = s.to n
end Go.AE
namespace Go.AE
variable {P : Program} {t : VTm} {s : VSt}
def VTm.ev (t : VTm) : Operand → Option PV
 | .tmp k => some (t.m k)
 | .const v => if scal v = true then some (.sc v) else none
 | .func f => some (.fn (.func f) [] [])
 | .global _ => none
theorem zA4 {H : St} {X : Nat → Prop} {T : Tm} (h : TmV H X t T) {x : Operand} {p : PV} (e : t.ev x = some p) : ∃ v, T.ev x = some v ∧ DV H X p v := by
 cases x with
 | tmp k => simp only [VTm.ev, Option.some.injEq] at e; subst e; exact ⟨_, rfl, h.2 k⟩
 | const v =>
  simp only [VTm.ev] at e
  by_cases hs : scal v = true
  ·rw [if_pos hs] at e; simp only [Option.some.injEq] at e; subst e
   exact ⟨v, by simp only [Tm.ev, hs, cond_true], .sc hs⟩
  ·rw [if_neg hs] at e; cases e
 | func f =>
  simp only [VTm.ev, Option.some.injEq] at e; subst e
  exact ⟨_, rfl, .fn rfl (fun i x u h => by simp at h) rfl (fun i x u h => by simp at h)⟩
 | global g => cases e
theorem DV.sc_inv {H : St} {X : Nat → Prop} {u v : Value} (h : DV H X (.sc u) v) : v = u ∧ scal u = true := by
 cases h with
 | sc h => exact ⟨rfl, h⟩
theorem zBW {o : Oper} {p : PV} (h : ∀ ⦃H : St⦄ ⦃T : Tm⦄, SatV s H → TmV H (Own' s) t T → ∃ v, H.op P T o = some (.val v, H) ∧ DV H (Own' s) p v) : OpV P s t o p s := fun H T hs ht => by
 obtain ⟨v, e, hv⟩ := h hs ht
 exact ⟨v, H, e, hs, hv, .refl _ _⟩
theorem zAD {o : Oper} {x : Operand} {p : PV} (ho : o.op = .move x) (h : t.ev x = some p) : OpV P s t o p s := zBW fun H T hs ht => by
 obtain ⟨v, e, hv⟩ := zA4 ht h
 exact ⟨v, by simp only [St.op, ho, e, keep], hv⟩
theorem zAF {o : Oper} {x : Operand} {p : PV} (ho : o.op = .assign x) (h : t.ev x = some p) : OpV P s t o p s := zBW fun H T hs ht => by
 obtain ⟨v, e, hv⟩ := zA4 ht h
 exact ⟨v, by simp only [St.op, ho, e, keep], hv⟩
theorem opV_pick {o : Oper} {c a b : Operand} {p : PV} {d : Bool} (ho : o.op = .pick c a b) (hc : t.ev c = some (.sc (.bool d))) (h : t.ev (if d then a else b) = some p) : OpV P s t o p s := zBW fun H T hs ht => by
 obtain ⟨v, e, hv⟩ := zA4 ht hc
 obtain ⟨rfl, _⟩ := hv.sc_inv
 obtain ⟨u, e2, hu⟩ := zA4 ht h
 refine ⟨u, ?_, hu⟩
 cases d with
 | true => simp only [St.op, ho, e, if_true] at e2 ⊢; rw [e2]; rfl
 | false => simp only [St.op, ho, e, Bool.false_eq_true, if_false] at e2 ⊢; rw [e2]; rfl
theorem zCP {o : Oper} {op : BinOp} {ty yt : TypeId} {x y : Operand} {a b v : Value} (ho : o.op = .binOp op ty x y yt) (hx : t.ev x = some (.sc a)) (hy : t.ev y = some (.sc b)) (h : binVal P op ty x y a b = some v) (hv : scal v = true) :
    OpV P s t o (.sc v) s := zBW fun H T hs ht => by
 obtain ⟨u1, e1, h1⟩ := zA4 ht hx
 obtain ⟨rfl, _⟩ := h1.sc_inv
 obtain ⟨u2, e2, h2⟩ := zA4 ht hy
 obtain ⟨rfl, _⟩ := h2.sc_inv
 exact ⟨v, by simp only [St.op, ho, e1, e2, h, keep], .sc hv⟩
theorem opV_un {o : Oper} {op : UnOp} {ty : TypeId} {x : Operand} {a v : Value} (ho : o.op = .unOp op ty x) (hx : t.ev x = some (.sc a)) (h : unVal P op a = some v) (hv : scal v = true) :
    OpV P s t o (.sc v) s := zBW fun H T hs ht => by
 obtain ⟨u1, e1, h1⟩ := zA4 ht hx
 obtain ⟨rfl, _⟩ := h1.sc_inv
 exact ⟨v, by simp only [St.op, ho, e1, h, keep], .sc hv⟩
def PV.els : PV → Option (Nat × List (List PV))
 | .sl z xs => some (z, xs)
 | .gl _ _ z xs => some (z, xs)
 | .sc (.slice none 0 0) => some (0, [])
 | _ => none
theorem els_len {H : St} {X : Nat → Prop} {p : PV} {z : Nat} {xs : List (List PV)} (h : p.els = some (z, xs)) {v : Value} (hv : DV H X p v) : ∃ a c, v = .slice a xs.length c := by
 unfold PV.els at h
 split at h
 ·simp only [Option.some.injEq, Prod.mk.injEq] at h
  obtain ⟨rfl, rfl⟩ := h
  cases hv with
  | sn => exact ⟨none, 0, rfl⟩
  | se => exact ⟨_, _, rfl⟩
  | sl hn => obtain ⟨hn, _⟩ := hn; subst hn; exact ⟨_, _, rfl⟩
 ·simp only [Option.some.injEq, Prod.mk.injEq] at h
  obtain ⟨rfl, rfl⟩ := h
  cases hv with
  | gl hn => subst hn; exact ⟨_, _, rfl⟩
 ·simp only [Option.some.injEq, Prod.mk.injEq] at h
  obtain ⟨rfl, rfl⟩ := h
  obtain ⟨rfl, _⟩ := hv.sc_inv
  exact ⟨none, 0, rfl⟩
 ·cases h
theorem opV_len {o : Oper} {c : Call} {ty : TypeId} {e : TypeId} {x : Operand} {p : PV} {z : Nat} {xs : List (List PV)} (ho : o.op = .call c) (hb : c.callee = .builtin .len) (ha : c.args = #[x]) (hty : c.argTypes = #[ty])
    (hu : P.underlying ty = some (.slice e)) (hx : t.ev x = some p) (he : p.els = some (z, xs)) : OpV P s t o (.sc (.int .i64 (xs.length : Nat))) s := zBW fun H T hs ht => by
 obtain ⟨v, e1, hv⟩ := zA4 ht hx
 obtain ⟨a, cp, rfl⟩ := els_len he hv
 refine ⟨.int .i64 (xs.length : Nat), ?_, .sc rfl⟩
 simp only [St.op, ho, ha, Tm.evs, e1, hb, St.builtinOp, hty, St.lenOp, hu, Option.map_some, both]
theorem els_addr {H : St} {X : Nat → Prop} {p : PV} {z : Nat} {xs : List (List PV)} (h : p.els = some (z, xs)) {v : Value} (hv : DV H X p v) {i : Nat} (hi : i < xs.length) :
    ∃ b off c, v = .slice (some ⟨b, off, none⟩) xs.length c ∧ DV H X (.ea z xs i 0) (.pointer (some ⟨b, off + i * z, none⟩)) := by
 unfold PV.els at h
 split at h
 ·simp only [Option.some.injEq, Prod.mk.injEq] at h
  obtain ⟨rfl, rfl⟩ := h
  cases hv with
  | sn => simp at hi
  | se => simp at hi
  | sl hn h1 h2 h3 => obtain ⟨hn, _⟩ := hn; subst hn; exact ⟨_, _, _, rfl, .ea (o := 0) h1 h2 h3⟩
 ·simp only [Option.some.injEq, Prod.mk.injEq] at h
  obtain ⟨rfl, rfl⟩ := h
  cases hv with
  | gl hn h1 h2 h3 h4 h5 h6 h7 h8 h9 => subst hn; exact ⟨_, _, _, rfl, .ea (o := 0) (.inr ⟨_, _, _, _, h1, h2, h3, h4⟩) h8 h9⟩
 ·simp only [Option.some.injEq, Prod.mk.injEq] at h
  obtain ⟨rfl, rfl⟩ := h
  simp at hi
 ·cases h
theorem opV_indexAddr {o : Oper} {ty e : TypeId} {x ix : Operand} {p : PV} {z : Nat} {xs : List (List PV)} {k : IntKind} {i : Nat} {inf : TypeInfo} (ho : o.op = .indexAddr ty x ix) (hx : t.ev x = some p) (hix : t.ev ix = some (.sc (.int k (.ofNat i))))
    (he : p.els = some (z, xs)) (hu : P.underlying ty = some (.slice e)) (hin : P.info? e = some inf) (hz : inf.size = z) (hi : i < xs.length) : OpV P s t o (.ea z xs i 0) s := zBW fun H T hs ht => by
 obtain ⟨v, e1, hv⟩ := zA4 ht hx
 obtain ⟨u, e2, hu2⟩ := zA4 ht hix
 obtain ⟨rfl, _⟩ := hu2.sc_inv
 obtain ⟨b, off, c, rfl, hd⟩ := els_addr he hv hi
 refine ⟨_, ?_, hd⟩
 have hb : Nat.blt i xs.length = true := Nat.ble_eq_true_of_le hi
 simp only [St.op, ho, e1, e2, zD2, idxVal, hu, hin, hb, cond_true, keep, hz]
theorem opV_fieldAddr {o : Oper} {sty : TypeId} {x : Operand} {f : Nat} {z : Nat} {xs : List (List PV)} {i k : Nat} {fs : Array Go.Field} {fd : Go.Field} {inf : TypeInfo} (ho : o.op = .fieldAddr sty x f) (hx : t.ev x = some (.ea z xs i k))
    (hu : P.underlying sty = some (.struct fs)) (hf : fs[f]? = some fd) (hin : P.info? fd.type = some inf) (hz : inf.size ≠ 0) : OpV P s t o (.ea z xs i (k + fd.offset)) s := zBW fun H T hs ht => by
 obtain ⟨v, e1, hv⟩ := zA4 ht hx
 cases hv with
 | ea h1 h2 h3 =>
  rename_i b off u
  refine ⟨.pointer (some ⟨b, off + i * z + (k + fd.offset), none⟩), ?_, .ea h1 h2 h3⟩
  have hb : Nat.beq inf.size 0 = false := by cases h : inf.size with | zero => exact absurd h hz | succ n => rfl
  simp only [St.op, ho, e1, fieldAddrVal, hu, hf, hin, hb, cond_false, keep, Nat.add_assoc]
theorem zBU {o : Oper} {x : Operand} {k : Nat} {cs : List PV} {p : PV} (ho : o.op = .extract x k) (hx : t.ev x = some (.tp cs)) (hk : cs[k]? = some p) : OpV P s t o p s := zBW fun H T hs ht => by
 obtain ⟨v, e1, hv⟩ := zA4 ht hx
 cases hv with
 | tp h1 h2 =>
  rename_i c
  have hlt : k < c.toList.length := by rw [← h1]; exact (List.getElem?_eq_some_iff.1 hk).1
  have hg : c.toList[k]? = some c.toList[k] := List.getElem?_eq_getElem hlt
  refine ⟨c.toList[k], ?_, h2 k p _ hk hg⟩
  have hg2 : c[k]? = some c.toList[k] := by rw [← Array.getElem?_toList]; exact hg
  simp only [St.op, ho, e1, extractVal, hg2, keep]
theorem ea_read {H : St} {z : Nat} {xs : List (List PV)} {b off : Nat} {u : Nat → Nat → Value} (h2 : Cells z xs (H.cell? b) off u) {i : Nat} {row : List PV} (hr : xs[i]? = some row) :
    ∀ (n k : Nat), k + n ≤ row.length → ∃ l, H.read b (off + i * z + k) n = some l ∧ l.length = n ∧ ∀ j, j < n → l[j]? = some (u i (k + j))
 | 0, k, _ => ⟨[], rfl, rfl, fun j hj => by omega⟩
 | n + 1, k, hk => by
  obtain ⟨l, e1, e2, e3⟩ := ea_read h2 hr n (k + 1) (by omega)
  have hx : row[k]? = some row[k] := by simp
  have hc := h2.get i k row _ hr hx
  refine ⟨u i k :: l, ?_, by simp [e2], fun j hj => ?_⟩
  ·simp only [St.read]
   rw [hc]
   dsimp only
   have e1' : H.read b (off + i * z + k + 1) n = some l := e1
   rw [e1']
  ·cases j with
   | zero => rfl
   | succ j => rw [List.getElem?_cons_succ, e3 j (by omega)]; congr 2; omega
theorem opV_load1 {o : Oper} {ty : TypeId} {x : Operand} {z : Nat} {xs : List (List PV)} {i k : Nat} {row : List PV} {p : PV} {d : TypeDesc} (ho : o.op = .load ty x) (hx : t.ev x = some (.ea z xs i k)) (hr : xs[i]? = some row) (hp : row[k]? = some p)
    (hu : P.underlying ty = some d) (hd : isAggD d = false) : OpV P s t o p s := zBW fun H T hs ht => by
 obtain ⟨v, e1, hv⟩ := zA4 ht hx
 cases hv with
 | ea h1 h2 h3 =>
  rename_i b off u
  refine ⟨u i k, ?_, h3 i k row p hr hp⟩
  have hc := h2.get i k row p hr hp
  simp only [St.op, ho, e1, St.loadOp, St.loadVar, hu, hd, cond_false, hc, keep]
theorem opV_loadAgg {o : Oper} {ty : TypeId} {x : Operand} {z : Nat} {xs : List (List PV)} {i k : Nat} {row : List PV} {d : TypeDesc} {inf : TypeInfo} (ho : o.op = .load ty x) (hx : t.ev x = some (.ea z xs i k)) (hr : xs[i]? = some row)
    (hu : P.underlying ty = some d) (hd : isAggD d = true) (hin : P.info? ty = some inf) (hk : k + inf.size ≤ row.length) : OpV P s t o (.ag ((row.drop k).take inf.size)) s := zBW fun H T hs ht => by
 obtain ⟨v, e1, hv⟩ := zA4 ht hx
 cases hv with
 | ea h1 h2 h3 =>
  rename_i b off u
  obtain ⟨l, q1, q2, q3⟩ := ea_read h2 hr inf.size k hk
  refine ⟨.agg l.toArray, ?_, .ag (by simp [q2]; omega) fun j p v hp hv => ?_⟩
  ·simp only [St.op, ho, e1, St.loadOp, St.loadVar, hu, hd, hin, cond_true, q1, Option.map_some, keep]
  ·have hj : j < inf.size := by
     have := (List.getElem?_eq_some_iff.1 hv).1
     simp [q2] at this; exact this
   rw [List.getElem?_take_of_lt hj, List.getElem?_drop] at hp
   have := q3 j hj
   simp only at hv
   rw [this] at hv; cases hv
   exact h3 i (k + j) row p hr hp
def VTm.evs (t : VTm) : List Operand → Option (List PV)
 | [] => some []
 | x :: xs => match t.ev x, t.evs xs with | some v, some vs => some (v :: vs) | _, _ => none
theorem vevs_sound {H : St} {X : Nat → Prop} {T : Tm} (h : TmV H X t T) : ∀ {xs : List Operand} {ps : List PV}, t.evs xs = some ps → ∃ vs, T.evs xs = some vs ∧ DVs H X ps vs
 | [], ps, e => by simp only [VTm.evs, Option.some.injEq] at e; subst e; exact ⟨[], rfl, .nil⟩
 | x :: xs, ps, e => by
  simp only [VTm.evs] at e
  split at e
  ·rename_i p ps' h1 h2
   simp only [Option.some.injEq] at e; subst e
   obtain ⟨v, e1, hv⟩ := zA4 h h1
   obtain ⟨vs, e2, hvs⟩ := vevs_sound h h2
   exact ⟨v :: vs, by simp only [Tm.evs, e1, e2], .cons hv hvs⟩
  ·cases e
theorem zAO {o : Oper} {c : Call} {f : FuncId} {fn : Func} {body : Code} {ps : List PV} (ho : o.op = .call c) (hc : c.callee = .value (.func f)) (ha : t.evs c.args.toList = some ps) (hf : P.funcs[f]? = some fn) (hb : fn.body = some body)
    (hn : zBM fn.name = false) : OpE P s t o f ps := fun H T hs ht => by
 obtain ⟨vs, e1, hvs⟩ := vevs_sound ht ha
 refine ⟨vs, ?_, hvs⟩
 simp only [St.op, ho, e1, hc, Tm.ev, callRes, hf, hb, hn, cond_false]
 simp
end Go.AE
namespace Go.AE
variable {P : Program} {t : VTm} {s : VSt}
def VSt.newz (s : VSt) (cs : List PV) (z : Nat) : VSt := { s with next := s.next + 1, mem := fun b => if b = s.next then some cs else s.mem b, fz := fun b => if b = s.next then (b, z) else s.fz b }
abbrev VSt.new (s : VSt) (cs : List PV) : VSt := s.newz cs 0
theorem newz_fo {cs : List PV} {z : Nat} (b : Nat) : (s.newz cs z).fo b = if b = s.next then b else s.fo b := by unfold VSt.fo VSt.newz; dsimp only; split <;> rfl
theorem newz_ez {cs : List PV} {z : Nat} (b : Nat) : (s.newz cs z).ez b = if b = s.next then z else s.ez b := by unfold VSt.ez VSt.newz; dsimp only; split <;> rfl
theorem keep_alloc {X : Nat → Prop} {H : St} (hw : WF H) (vs : List Value) (esz : Nat) : Keep X H (H.alloc vs esz) := by
 refine ⟨fun b c h => ?_, fun b c f g fm h1 h2 h3 _ => ⟨?_, fm, ?_, h3, rfl⟩⟩
 ·have := (hw.obs b _ h).1
  show (H.obs.set H.next _).get b = _
  rw [Tr.get_set_ne _ _ (by omega)]; exact h
 ·have := (hw.obs b _ h1).1
  show (H.obs.set H.next _).get b = _
  rw [Tr.get_set_ne _ _ (by omega)]; exact h1
 ·have := hw.fams f _ h2
  show (H.fams.set H.next _).get f = _
  rw [Tr.get_set_ne _ _ (by omega)]; exact h2
theorem satV_newz {H : St} (hs : SatV s H) {cs : List PV} {vs : List Value} (hvs : DVs H (Own' s) cs vs) (esz z : Nat) (hz : z ≠ 0 → esz = z) : SatV (s.newz cs z) (H.alloc vs esz) ∧ Fr s H (s.newz cs z) (H.alloc vs esz) := by
 have hfr : Fr s H (s.newz cs z) (H.alloc vs esz) := ⟨keep_alloc hs.wf _ _, Nat.le_succ _, fun f hf ho => by
  obtain ⟨b, c, hc, hf2⟩ := ho
  have hc : (if b = s.next then some cs else s.mem b) = some c := hc
  rw [newz_fo] at hf2
  by_cases e : b = s.next
  ·rw [if_pos e] at hf2; omega
  ·rw [if_neg e] at hc hf2; exact ⟨b, c, hc, hf2⟩⟩
 have hlen : ∀ {ps : List PV} {us : List Value}, DVs H (Own' s) ps us → ps.length = us.length := fun h => by
  induction h with
  | nil => rfl
  | cons _ _ ih => simp [ih]
 have folt : ∀ b c, s.mem b = some c → s.fo b < H.next := fun b c hb => by
  obtain ⟨_, _, fm, _, q2, _⟩ := hs.mem b c hb; exact hs.wf.fams _ _ q2
 have up : ∀ {p : PV} {v : Value}, DV H (Own' s) p v → DV (H.alloc vs esz) (Own' (s.newz cs z)) p v := fun h => h.fr hs.wf hfr.keep fun f hf ho => hfr.own f (by rw [hs.next]; exact hf) ho
 have dget : ∀ {ps : List PV} {us : List Value}, DVs H (Own' s) ps us → ∀ (i : Nat) (x : PV), ps[i]? = some x → ∃ u, us[i]? = some u ∧ DV H (Own' s) x u := by
  intro ps us h
  induction h with
  | nil => intro i x h; simp at h
  | cons h1 _ ih =>
   intro i x h
   cases i with
   | zero => simp at h; subst h; exact ⟨_, by simp, h1⟩
   | succ i => simp only [List.getElem?_cons_succ] at h ⊢; exact ih i x h
 refine ⟨⟨by show s.next + 1 = H.next + 1; rw [hs.next], ((abs_alloc H vs esz) hs.wf).wf, fun b c hb => ?_, fun b es hb => ?_, fun f e he => ?_, fun b b' c c' hb hb' hf => ?_, fun b c hb => ?_⟩, hfr⟩
 ·have hb : (if b = s.next then some cs else s.mem b) = some c := hb
  by_cases e : b = s.next
  ·rw [if_pos e] at hb
   simp only [Option.some.injEq] at hb; subst hb
   have efo : (s.newz cs z).fo b = b := by rw [newz_fo, if_pos e]
   rw [efo, e, hs.next]
   refine ⟨Tr.setList .nil 0 vs, 0, ⟨0, vs.length, esz⟩, Tr.get_set_same _ _ _, Tr.get_set_same _ _ _, rfl, fun i x hx => ?_⟩
   obtain ⟨u, h1, h2⟩ := dget hvs i x hx
   exact ⟨u, by rw [get_new]; exact h1, up h2⟩
  ·rw [if_neg e] at hb
   obtain ⟨c', g, fm, q1, q2, q3, q4⟩ := hs.mem b c hb
   have hbn : b ≠ H.next := by rw [← hs.next]; exact e
   have efo : (s.newz cs z).fo b = s.fo b := by rw [newz_fo, if_neg e]
   have := folt b c hb
   rw [efo]
   refine ⟨c', g, fm, ?_, ?_, q3, fun i x hx => let ⟨u, a, b⟩ := q4 i x hx; ⟨u, a, up b⟩⟩
   ·show (H.obs.set H.next _).get b = _
    rw [Tr.get_set_ne _ _ hbn]; exact q1
   ·show (H.fams.set H.next _).get (s.fo b) = _
    rw [Tr.get_set_ne _ _ (by omega)]; exact q2
 ·obtain ⟨es', q1, q2, q3⟩ := hs.maps b es hb
  have := (hs.wf.obs b _ q1).1
  refine ⟨es', ?_, q2, fun i e he => let ⟨e', a, b, c⟩ := q3 i e he; ⟨e', a, b, up c⟩⟩
  show (H.obs.set H.next _).get b = _
  rw [Tr.get_set_ne _ _ (by omega)]; exact q1
 ·obtain ⟨q1, fm, q2, q3⟩ := hs.grow f e he
  have hf := hs.wf.fams f fm q2
  refine ⟨fun ho => q1 (hfr.own f (by rw [hs.next]; exact hf) ho), fm, ?_, q3⟩
  show (H.fams.set H.next _).get f = _
  rw [Tr.get_set_ne _ _ (by omega)]; exact q2
 ·have hb : (if b = s.next then some cs else s.mem b) = some c := hb
  have hb' : (if b' = s.next then some cs else s.mem b') = some c' := hb'
  rw [newz_fo, newz_fo] at hf
  have hn := hs.next
  by_cases e : b = s.next
  ·by_cases e' : b' = s.next
   ·omega
   ·rw [if_neg e'] at hb' hf; rw [if_pos e] at hf
    have := folt b' c' hb'; omega
  ·rw [if_neg e] at hb hf
   by_cases e' : b' = s.next
   ·rw [if_pos e'] at hf
    have := folt b c hb; omega
   ·rw [if_neg e'] at hb' hf; exact hs.inj b b' c c' hb hb' hf
 ·have hb : (if b = s.next then some cs else s.mem b) = some c := hb
  rw [newz_fo, newz_ez]
  by_cases e : b = s.next
  ·rw [if_pos e] at hb ⊢
   rw [if_pos e]
   simp only [Option.some.injEq] at hb; subst hb
   rw [e, hs.next]
   have hl := hlen hvs
   exact ⟨⟨0, vs.length, esz⟩, Tr.get_set_same _ _ _, hl.symm, hz⟩
  ·rw [if_neg e] at hb ⊢
   rw [if_neg e]
   obtain ⟨fm, q1, q2⟩ := hs.ext b c hb
   refine ⟨fm, ?_, q2⟩
   have := hs.wf.fams _ _ q1
   show (H.fams.set H.next _).get _ = _
   rw [Tr.get_set_ne _ _ (by omega)]; exact q1
theorem satV_new {H : St} (hs : SatV s H) {cs : List PV} {vs : List Value} (hvs : DVs H (Own' s) cs vs) (esz : Nat) : SatV (s.new cs) (H.alloc vs esz) ∧ Fr s H (s.new cs) (H.alloc vs esz) := satV_newz hs hvs esz 0 (fun h => absurd rfl h)
theorem mem_cell {H : St} (hs : SatV s H) {b k : Nat} {cs : List PV} {p : PV} (hm : s.mem b = some cs) (hk : cs[k]? = some p) : ∃ u, H.cell? b k = some u ∧ DV H (Own' s) p u := by
 obtain ⟨c, g, fm, h1, h2, h3, h4⟩ := hs.mem b cs hm
 obtain ⟨u, q1, q2⟩ := h4 k p hk
 refine ⟨u, ?_, q2⟩
 unfold St.cell?
 rw [h1]; dsimp only; rw [h2]; dsimp only
 rw [h3, show Nat.beq g g = true from Nat.beq_refl g]; exact q1
theorem opV_loadPt {o : Oper} {ty : TypeId} {x : Operand} {b k : Nat} {cs : List PV} {p : PV} {d : TypeDesc} (ho : o.op = .load ty x) (hx : t.ev x = some (.pt b k)) (hm : s.mem b = some cs) (hp : cs[k]? = some p)
    (hu : P.underlying ty = some d) (hd : isAggD d = false) : OpV P s t o p s := zBW fun H T hs ht => by
 obtain ⟨v, e1, hv⟩ := zA4 ht hx
 cases hv with
 | pt =>
  obtain ⟨u, h1, h2⟩ := mem_cell hs hm hp
  exact ⟨u, by simp only [St.op, ho, e1, St.loadOp, St.loadVar, hu, hd, cond_false, h1, keep], h2⟩
def VSt.setMem (s : VSt) (b : Nat) (cs : List PV) : VSt := { s with mem := fun x => if x = b then some cs else s.mem x }
theorem own_setMem {b : Nat} {cs cs0 : List PV} (h : s.mem b = some cs0) : Own' (s.setMem b cs) = Own' s := by
 funext f
 apply propext
 show (∃ x c, (if x = b then some cs else s.mem x) = some c ∧ s.fo x = f) ↔ ∃ x c, s.mem x = some c ∧ s.fo x = f
 constructor
 ·rintro ⟨x, c, h1, h2⟩
  by_cases e : x = b
  ·exact ⟨x, cs0, by rw [e]; exact h, h2⟩
  ·rw [if_neg e] at h1; exact ⟨x, c, h1, h2⟩
 ·rintro ⟨x, c, h1, h2⟩
  by_cases e : x = b
  ·exact ⟨x, cs, by rw [if_pos e], h2⟩
  ·exact ⟨x, c, by rw [if_neg e]; exact h1, h2⟩
theorem satV_store {H : St} (hs : SatV s H) {b k : Nat} {cs : List PV} {p : PV} {v : Value} (hm : s.mem b = some cs) (hk : k < cs.length) (hv : DV H (Own' s) p v) (hfl : flat v = true) :
    ∃ H', H.store b k v = some H' ∧ SatV (s.setMem b (cs.set k p)) H' ∧ Fr s H (s.setMem b (cs.set k p)) H' := by
 obtain ⟨c, g, fm, h1, h2, h3, h4⟩ := hs.mem b cs hm
 obtain ⟨u0, q1, _⟩ := h4 k cs[k] (by simp)
 have eg : Nat.beq fm.gen g = true := by rw [h3]; exact Nat.beq_refl g
 have est : H.store b k v = some { next := H.next, obs := H.obs.set b (.rw (c.set k v) (s.fo b) (g + 1)), fams := H.fams.set (s.fo b) ⟨g + 1, fm.ext, fm.esz⟩, low := cond (Nat.ble H.low (s.fo b)) H.low (s.fo b) } := by
  simp only [St.store, hfl, cond_true, h1, h2, eg, q1]
 have hab := abs_store est hs.wf
 have keep : Keep (Own' s) H { next := H.next, obs := H.obs.set b (.rw (c.set k v) (s.fo b) (g + 1)), fams := H.fams.set (s.fo b) ⟨g + 1, fm.ext, fm.esz⟩, low := cond (Nat.ble H.low (s.fo b)) H.low (s.fo b) } := by
  refine ⟨fun b' c' h => ?_, fun b' c' f' g' fm' k1 k2 k3 k4 => ?_⟩
  ·have : b' ≠ b := fun e => by rw [e, h1] at h; cases h
   dsimp only; rw [Tr.get_set_ne _ _ this]; exact h
  ·have hf : f' ≠ s.fo b := fun e => k4 (by rw [e]; exact ⟨b, cs, hm, rfl⟩)
   have hb : b' ≠ b := fun e => by rw [e, h1] at k1; cases k1; exact hf rfl
   dsimp only
   rw [Tr.get_set_ne _ _ hb, Tr.get_set_ne _ _ hf]; exact ⟨k1, fm', k2, k3, rfl⟩
 have eo := own_setMem (s := s) (cs := cs.set k p) hm
 have up : ∀ {p : PV} {v : Value}, DV H (Own' s) p v → DV _ (Own' s) p v := fun h => h.keep keep
 refine ⟨_, est, ⟨hs.next, hab.wf, fun b' c' hb => ?_, fun b' es hb => ?_, fun f e he => ?_, fun b1 b2 c1 c2 g1 g2 g3 => ?_, fun b1 c1 g1 => ?_⟩, ⟨keep, Nat.le_refl _, fun f _ ho => by rw [eo] at ho; exact ho⟩⟩
 ·rw [eo]
  have hb : (if b' = b then some (cs.set k p) else s.mem b') = some c' := hb
  by_cases e : b' = b
  ·rw [if_pos e] at hb
   simp only [Option.some.injEq] at hb; subst hb; subst e
   refine ⟨_, _, _, Tr.get_set_same _ _ _, Tr.get_set_same _ _ _, rfl, fun i x hx => ?_⟩
   rw [Tr.get_set]
   by_cases ei : i = k
   ·subst ei
    rw [List.getElem?_set_self hk] at hx
    simp only [Option.some.injEq] at hx; subst hx
    rw [if_pos rfl]; exact ⟨v, rfl, up hv⟩
   ·rw [List.getElem?_set_ne (fun e => ei e.symm)] at hx
    rw [if_neg ei]
    obtain ⟨u, a1, a2⟩ := h4 i x hx
    exact ⟨u, a1, up a2⟩
  ·rw [if_neg e] at hb
   obtain ⟨c2, g2, fm2, r1, r2, r3, r4⟩ := hs.mem b' c' hb
   have hfo : s.fo b' ≠ s.fo b := fun h => e (hs.inj _ _ _ _ hb hm h)
   refine ⟨c2, g2, fm2, ?_, ?_, r3, fun i x hx => let ⟨u, a1, a2⟩ := r4 i x hx; ⟨u, a1, up a2⟩⟩
   ·dsimp only; rw [Tr.get_set_ne _ _ e]; exact r1
   ·show (H.fams.set (s.fo b) _).get (s.fo b') = _; rw [Tr.get_set_ne _ _ hfo]; exact r2
 ·rw [eo]
  obtain ⟨es', r1, r2, r3⟩ := hs.maps b' es hb
  have : b' ≠ b := fun e => by rw [e, h1] at r1; cases r1
  refine ⟨es', ?_, r2, fun i e he => let ⟨e', a1, a2, a3⟩ := r3 i e he; ⟨e', a1, a2, up a3⟩⟩
  dsimp only; rw [Tr.get_set_ne _ _ this]; exact r1
 ·rw [eo]
  obtain ⟨r1, fm2, r2, r3⟩ := hs.grow f e he
  have : f ≠ s.fo b := fun e => r1 (by rw [e]; exact ⟨b, cs, hm, rfl⟩)
  refine ⟨r1, fm2, ?_, r3⟩
  dsimp only; rw [Tr.get_set_ne _ _ this]; exact r2
 ·have old : ∀ x c, (s.setMem b (cs.set k p)).mem x = some c → ∃ c', s.mem x = some c' := fun x c h => by
    have h : (if x = b then some (cs.set k p) else s.mem x) = some c := h
    by_cases e : x = b
    ·exact ⟨cs, by rw [e]; exact hm⟩
    ·rw [if_neg e] at h; exact ⟨c, h⟩
  obtain ⟨d1, k1⟩ := old _ _ g1
  obtain ⟨d2, k2⟩ := old _ _ g2
  exact hs.inj _ _ _ _ k1 k2 g3
 ·have g1 : (if b1 = b then some (cs.set k p) else s.mem b1) = some c1 := g1
  by_cases e : b1 = b
  ·rw [if_pos e] at g1
   simp only [Option.some.injEq] at g1; subst g1; subst e
   obtain ⟨fm', q1, q2, q3⟩ := hs.ext _ _ hm
   rw [h2] at q1; cases q1
   exact ⟨_, Tr.get_set_same _ _ _, by simpa using q2, q3⟩
  ·rw [if_neg e] at g1
   obtain ⟨fm', q1, q2⟩ := hs.ext _ _ g1
   have hfo : s.fo b1 ≠ s.fo b := fun h => e (hs.inj _ _ _ _ g1 hm h)
   exact ⟨fm', by show (H.fams.set (s.fo b) _).get (s.fo b1) = _; rw [Tr.get_set_ne _ _ hfo]; exact q1, q2⟩
end Go.AE
namespace Go.AE
variable {P : Program} {t : VTm} {s : VSt}
structure Flat (H : St) (X : Nat → Prop) (z : Nat) (xs : List (List PV)) (l : List Value) : Prop where
 size : ∀ row ∈ xs, row.length = z
 len : l.length = xs.length * z
 get : ∀ (i j : Nat) (row : List PV) (x : PV), xs[i]? = some row → row[j]? = some x → ∃ u, l[i * z + j]? = some u ∧ DV H X x u
theorem cells_row {z : Nat} {xs : List (List PV)} {cell : Nat → Option Value} {off : Nat} {u : Nat → Nat → Value} (h : Cells z xs cell off u) {k : Nat} (hk : k < xs.length * z) :
    ∃ (i j : Nat) (row : List PV) (x : PV), k = i * z + j ∧ xs[i]? = some row ∧ row[j]? = some x ∧ cell (off + k) = some (u i j) := by
 have hz : 0 < z := by rcases Nat.eq_zero_or_pos z with e | e; · subst e; omega
                       ·exact e
 have hi : k / z < xs.length := Nat.div_lt_of_lt_mul (by rw [Nat.mul_comm]; exact hk)
 have hrow : xs[k / z]? = some xs[k / z] := by simp [hi]
 have hsz := h.size xs[k / z] (List.getElem_mem _)
 have hj : k % z < xs[k / z].length := by rw [hsz]; exact Nat.mod_lt _ hz
 have hx : (xs[k / z])[k % z]? = some (xs[k / z])[k % z] := by simp [hj]
 have e : k = k / z * z + k % z := by rw [Nat.mul_comm]; exact (Nat.div_add_mod k z).symm
 refine ⟨k / z, k % z, _, _, e, hrow, hx, ?_⟩
 have := h.get _ _ _ _ hrow hx
 rw [← this]; congr 1; omega
theorem read_all {H : St} {b : Nat} : ∀ (n off : Nat), (∀ k, k < n → ∃ v, H.cell? b (off + k) = some v) → ∃ l, H.read b off n = some l
 | 0, off, _ => ⟨[], rfl⟩
 | n + 1, off, h => by
  obtain ⟨v, hv⟩ := h 0 (by omega)
  obtain ⟨l, hl⟩ := read_all n (off + 1) fun k hk => by
   obtain ⟨u, hu⟩ := h (k + 1) (by omega)
   exact ⟨u, by rw [← hu]; congr 1; omega⟩
  exact ⟨v :: l, by simp only [St.read]; rw [show off = off + 0 from rfl, hv]; dsimp only; rw [show off + 0 + 1 = off + 1 from rfl, hl]⟩
theorem flat_of_cells {H : St} {X : Nat → Prop} {z : Nat} {xs : List (List PV)} {b off : Nat} {u : Nat → Nat → Value} (h : Cells z xs (H.cell? b) off u)
    (hd : ∀ (i j : Nat) (row : List PV) (x : PV), xs[i]? = some row → row[j]? = some x → DV H X x (u i j)) : ∃ l, H.read b off (xs.length * z) = some l ∧ Flat H X z xs l := by
 obtain ⟨l, hl⟩ := read_all (H := H) (b := b) (xs.length * z) off fun k hk => let ⟨i, j, _, _, _, _, _, e⟩ := cells_row h hk; ⟨_, e⟩
 obtain ⟨s1, s2⟩ := St.read_spec hl
 refine ⟨l, hl, h.size, s1, fun i j row x h1 h2 => ⟨u i j, ?_, hd i j row x h1 h2⟩⟩
 have hc := h.get i j row x h1 h2
 have hlt : i * z + j < l.length := by
  rw [s1]
  have hi := (List.getElem?_eq_some_iff.1 h1).1
  have hr := h.size row (List.mem_of_getElem? h1)
  have hj := (List.getElem?_eq_some_iff.1 h2).1
  calc i * z + j < i * z + z := by omega
   _ = (i + 1) * z := by rw [Nat.add_mul, Nat.one_mul]
   _ ≤ xs.length * z := Nat.mul_le_mul_right z hi
 have hg : l[i * z + j]? = some l[i * z + j] := by simp [hlt]
 have := s2 _ _ hg
 rw [show off + (i * z + j) = off + i * z + j from by omega, hc] at this
 simp only [Option.some.injEq] at this
 rw [hg, ← this]
theorem els_cells {H : St} {X : Nat → Prop} {p : PV} {z : Nat} {xs : List (List PV)} (h : p.els = some (z, xs)) {v : Value} (hv : DV H X p v) (hxs : xs = [] ∨ z ≠ 0) (w : Nat) (hw : xs = [] ∨ w = z) :
    ∃ l, H.newCells w v = some (xs.length, l) ∧ Flat H X z xs l := by
 have nilF : Flat H X z [] [] := ⟨fun _ h => (by cases h), (by simp), fun i j row x h => (by simp at h)⟩
 have main : ∀ {b off n c : Nat} {u : Nat → Nat → Value}, n = xs.length → Cells z xs (H.cell? b) off u → (∀ (i j : Nat) (row : List PV) (x : PV), xs[i]? = some row → row[j]? = some x → DV H X x (u i j)) →
     ∃ l, H.newCells w (.slice (some ⟨b, off, none⟩) n c) = some (xs.length, l) ∧ Flat H X z xs l := by
  intro b off n c u hn hc hd
  cases xs with
  | nil => subst hn; exact ⟨[], rfl, nilF⟩
  | cons x xs =>
   rcases hw with hw | hw
   ·cases hw
   ·subst hw
    obtain ⟨l, h1, h2⟩ := flat_of_cells hc hd
    refine ⟨l, ?_, h2⟩
    subst hn
    simp only [St.newCells]
    rw [show Nat.beq (x :: xs).length 0 = false from rfl]
    simp only [cond_false]
    rw [h1]; rfl
 unfold PV.els at h
 split at h
 ·simp only [Option.some.injEq, Prod.mk.injEq] at h
  obtain ⟨rfl, rfl⟩ := h
  cases hv with
  | sn => exact ⟨[], rfl, nilF⟩
  | se => exact ⟨[], rfl, nilF⟩
  | sl hn h1 h2 h3 => exact main hn.1 h2 h3
 ·simp only [Option.some.injEq, Prod.mk.injEq] at h
  obtain ⟨rfl, rfl⟩ := h
  cases hv with
  | gl hn h1 h2 h3 h4 h5 h6 h7 h8 h9 => exact main hn h8 h9
 ·simp only [Option.some.injEq, Prod.mk.injEq] at h
  obtain ⟨rfl, rfl⟩ := h
  obtain ⟨rfl, _⟩ := hv.sc_inv
  exact ⟨[], rfl, nilF⟩
 ·cases h
theorem version_ok {H : St} {b off len esz : Nat} {new l : List Value} {c : Tr Value} {f g : Nat} {fm : Fam} (h1 : H.obs.get b = some (.rw c f g)) (h2 : H.fams.get f = some fm) (h3 : fm.gen = g) (h4 : fm.ext = off + len) (h5 : fm.esz = esz) (h6 : esz ≠ 0)
    (hl : H.read b off len = some l) : ∃ T : Tr Value, H.version b off len esz new = some { next := H.next + 1, obs := H.obs.set H.next (.rw (T.setList (off + len) new) f g), fams := H.fams.set f ⟨g, off + len + new.length, esz⟩, low := cond (Nat.ble H.low f) H.low f } ∧
     ∀ k, k < len → T.get (off + k) = H.cell? b (off + k) := by
 have e1 : Nat.beq fm.gen g = true := by rw [h3]; exact Nat.beq_refl g
 have e2 : Nat.beq fm.ext (off + len) = true := by rw [h4]; exact Nat.beq_refl _
 have e3 : Nat.beq fm.esz esz = true := by rw [h5]; exact Nat.beq_refl _
 have e4 : Nat.beq esz 0 = false := by cases esz with | zero => exact absurd rfl h6 | succ n => rfl
 have hc : ∀ k, H.cell? b k = c.get k := fun k => by
  unfold St.cell?; rw [h1]; dsimp only; rw [h2]; dsimp only; rw [e1]; rfl
 cases off with
 | zero =>
  refine ⟨c, ?_, fun k _ => (hc _).symm⟩
  simp only [St.version, h1, h2, e1, e2, e3, e4, Bool.not_false, Bool.and_self, cond_true]
 | succ o =>
  obtain ⟨r1, r2⟩ := St.read_spec hl
  refine ⟨Tr.setList .nil (o + 1) l, ?_, fun k hk => ?_⟩
  ·simp only [St.version, h1, h2, e1, e2, e3, e4, Bool.not_false, Bool.and_self, cond_true, hl, Option.map_some]
  ·rw [Tr.get_setList, if_pos (by omega), show o + 1 + k - (o + 1) = k by omega]
   have hg : l[k]? = some l[k] := List.getElem?_eq_getElem (by omega)
   rw [hg]; exact (r2 k _ hg).symm
def VSt.grown (s : VSt) (f e : Nat) : VSt := { s with next := s.next + 1, grow := fun x => if x = f then some e else s.grow x }
theorem Flat.append {H : St} {X : Nat → Prop} {z : Nat} {xs ys : List (List PV)} {l m : List Value} (h : Flat H X z xs l) (k : Flat H X z ys m) : Flat H X z (xs ++ ys) (l ++ m) where
 size := fun row hr => (List.mem_append.1 hr).elim (h.size row) (k.size row)
 len := by rw [List.length_append, List.length_append, h.len, k.len, Nat.add_mul]
 get := fun i j row x h1 h2 => by
  rcases Nat.lt_or_ge i xs.length with hi | hi
  ·rw [List.getElem?_append_left hi] at h1
   obtain ⟨u, e, d⟩ := h.get i j row x h1 h2
   exact ⟨u, by rw [List.getElem?_append_left (List.getElem?_eq_some_iff.1 e).1]; exact e, d⟩
  ·rw [List.getElem?_append_right hi] at h1
   obtain ⟨u, e, d⟩ := k.get _ j row x h1 h2
   refine ⟨u, ?_, d⟩
   have : l.length ≤ i * z + j := by rw [h.len]; exact Nat.le_trans (Nat.mul_le_mul_right z hi) (Nat.le_add_right _ _)
   rw [List.getElem?_append_right this, h.len, ← e]
   congr 1
   rw [Nat.sub_mul]
   have := Nat.mul_le_mul_right z hi
   omega
theorem Flat.fr {H H' : St} {X X' : Nat → Prop} {z : Nat} {xs : List (List PV)} {l : List Value} (h : Flat H X z xs l) (up : ∀ {p : PV} {v : Value}, DV H X p v → DV H' X' p v) : Flat H' X' z xs l :=
 ⟨h.size, h.len, fun i j row x h1 h2 => let ⟨u, a, b⟩ := h.get i j row x h1 h2; ⟨u, a, up b⟩⟩
theorem cells_of_flat {H : St} {X : Nat → Prop} {z : Nat} {xs : List (List PV)} {l : List Value} (h : Flat H X z xs l) {b off : Nat} (hc : ∀ k, k < l.length → H.cell? b (off + k) = l[k]?) :
    ∃ u, Cells z xs (H.cell? b) off u ∧ ∀ (i j : Nat) (row : List PV) (x : PV), xs[i]? = some row → row[j]? = some x → DV H X x (u i j) := by
 refine ⟨fun i j => (l[i * z + j]?).getD undef, ⟨h.size, fun i j row x h1 h2 => ?_⟩, fun i j row x h1 h2 => ?_⟩
 ·obtain ⟨u, e, _⟩ := h.get i j row x h1 h2
  rw [show off + i * z + j = off + (i * z + j) by omega, hc _ (List.getElem?_eq_some_iff.1 e).1, e]; rfl
 ·obtain ⟨u, e, d⟩ := h.get i j row x h1 h2
  show DV H X x ((l[i * z + j]?).getD undef)
  rw [e]; exact d
theorem satV_row {H : St} (hs : SatV s H) {z : Nat} (hz : z ≠ 0) {xs : List (List PV)} {l : List Value} (hl : Flat H (Own' s) z xs l) :
    SatV (s.grown s.next (xs.length * z)) (H.alloc l z) ∧ Fr s H (s.grown s.next (xs.length * z)) (H.alloc l z) ∧
     DV (H.alloc l z) (Own' s) (.gl s.next (xs.length * z) z xs) (.slice (some ⟨H.next, 0, none⟩) xs.length (unk + z)) := by
 have keep := keep_alloc (X := Own' s) hs.wf l z
 have hfr : Fr s H (s.grown s.next (xs.length * z)) (H.alloc l z) := ⟨keep, Nat.le_succ _, fun f _ ho => ho⟩
 have notOwn : ¬ Own' s s.next := by
  rintro ⟨b, cs, hc, hf⟩
  obtain ⟨_, _, fm, _, h2, _⟩ := hs.mem _ _ hc
  have := hs.wf.fams _ _ h2
  have := hs.next
  omega
 have up : ∀ {p : PV} {v : Value}, DV H (Own' s) p v → DV (H.alloc l z) (Own' s) p v := fun h => h.keep keep
 have eo : (H.alloc l z).obs.get H.next = some (.rw (Tr.setList .nil 0 l) H.next 0) := Tr.get_set_same _ _ _
 have ef : (H.alloc l z).fams.get H.next = some ⟨0, l.length, z⟩ := Tr.get_set_same _ _ _
 refine ⟨⟨by show s.next + 1 = H.next + 1; rw [hs.next], ((abs_alloc H l z) hs.wf).wf, fun b c hb => ?_, fun b es hb => ?_, fun f e he => ?_, hs.inj, fun b c hb => by
  obtain ⟨fm, q1, q2⟩ := hs.ext b c hb
  have := hs.wf.fams _ _ q1
  exact ⟨fm, by show (H.fams.set H.next _).get (s.fo b) = _; rw [Tr.get_set_ne _ _ (by omega)]; exact q1, q2⟩⟩, hfr, ?_⟩
 ·obtain ⟨c', g, fm, q1, q2, q3, q4⟩ := hs.mem b c hb
  have hbn : b ≠ H.next := by have := (hs.wf.obs b _ q1).1; omega
  refine ⟨c', g, fm, ?_, ?_, q3, fun i x hx => let ⟨u, a, b⟩ := q4 i x hx; ⟨u, a, up b⟩⟩
  ·show (H.obs.set H.next _).get b = _
   rw [Tr.get_set_ne _ _ hbn]; exact q1
  ·have := hs.wf.fams _ _ q2
   show (H.fams.set H.next _).get (s.fo b) = _
   rw [Tr.get_set_ne _ _ (by omega)]; exact q2
 ·obtain ⟨es', q1, q2, q3⟩ := hs.maps b es hb
  have := (hs.wf.obs b _ q1).1
  refine ⟨es', ?_, q2, fun i e he => let ⟨e', a, b, c⟩ := q3 i e he; ⟨e', a, b, up c⟩⟩
  show (H.obs.set H.next _).get b = _
  rw [Tr.get_set_ne _ _ (by omega)]; exact q1
 ·have he : (if f = s.next then some (xs.length * z) else s.grow f) = some e := he
  by_cases e1 : f = s.next
  ·rw [if_pos e1] at he
   simp only [Option.some.injEq] at he
   subst he; subst e1
   refine ⟨notOwn, _, by rw [hs.next]; exact ef, hl.len⟩
  ·rw [if_neg e1] at he
   obtain ⟨q1, fm, q2, q3⟩ := hs.grow f e he
   have hf := hs.wf.fams f fm q2
   refine ⟨q1, fm, ?_, q3⟩
   show (H.fams.set H.next _).get f = _
   rw [Tr.get_set_ne _ _ (by omega)]; exact q2
 ·obtain ⟨u, h1, h2⟩ := cells_of_flat (H := H.alloc l z) (b := H.next) (off := 0) (hl.fr up) fun k hk => by
    unfold St.cell?; rw [eo]; dsimp only; rw [ef]; dsimp only
    rw [show Nat.beq 0 0 = true from rfl, Nat.zero_add]; exact get_new l k
  rw [hs.next]
  exact .gl rfl eo ef rfl (by rw [← hs.next]; exact notOwn) (by omega) rfl hz h1 h2
end Go.AE
namespace Go.AE
variable {P : Program} {ops : Array Oper} {o : Oper} {t : VTm} {s : VSt}
def VTm.set (t : VTm) (d : Nat) (p : PV) : VTm := ⟨t.n, fun k => bif Nat.beq k d then p else t.m k⟩
def VTm.setO (t : VTm) (d : Option Nat) (p : PV) : VTm := match d with | some d => t.set d p | none => t
theorem beq_iff (k d : Nat) : Nat.beq k d = decide (k = d) := by
 by_cases h : k = d
 ·subst h; simp
 ·have : Nat.beq k d = false := by rw [← Bool.not_eq_true]; intro h'; exact h (Nat.eq_of_beq_eq_true h')
  rw [this]; simp [h]
theorem VTm.set_m (t : VTm) (d : Nat) (p : PV) (k : Nat) : (t.set d p).m k = if k = d then p else t.m k := by
 show (bif Nat.beq k d then p else t.m k) = _
 rw [beq_iff]; by_cases h : k = d <;> simp [h]
theorem VTm.put_set {d : Nat} {p : PV} (h : Nat.blt d t.n = true) : t.put (some d) p = some (t.set d p) := by
 have h : d < t.n := Nat.le_of_ble_eq_true h
 simp only [VTm.put, h, if_true, Option.some.injEq]
 show (⟨_, _⟩ : VTm) = ⟨_, _⟩
 congr 1
 funext k
 exact (VTm.set_m t d p k).symm
def dstOk (t : VTm) (d : Option Nat) : Bool := match d with | some d => Nat.blt d t.n | none => true
theorem VTm.put_setO {d : Option Nat} {p : PV} (h : dstOk t d = true) : t.put d p = some (t.setO d p) := by
 cases d with
 | none => rfl
 | some d => exact VTm.put_set h
def Out (Q : PV → VSt → Prop) (s : VSt) (μ : Mu) (H : St) (w : World) (v' : Value) (w' : World) : Prop :=
 ∃ v H' μ' p s', Q p s' ∧ Step μ H w μ' H' w' ∧ WF H' ∧ VR w' μ' v v' ∧ SatV s' H' ∧ DV H' (Own' s') p v ∧ Fr s H s' H'
def VStep (P : Program) (ops : Array Oper) (o : Oper) (t : VTm) (s : VSt) (Q : PV → VSt → Prop) : Prop :=
 ∀ ⦃H : St⦄ ⦃T : Tm⦄ ⦃μ : Mu⦄ ⦃w : World⦄ ⦃a : Act⦄, SatV s H → TmV H (Own' s) t T → At μ H w → TmR w μ T a.tmps →
  (zCA ops T o = true → Yld P (execOp a.eval o) w (Out Q s μ H w)) ∧ (zCA ops T o = false → Q (.sc undef) s)
theorem VStep.mono {Q Q' : PV → VSt → Prop} (h : VStep P ops o t s Q) (hq : ∀ p s', Q p s' → Q' p s') : VStep P ops o t s Q' := fun H T μ w a hs ht ha hT => by
 obtain ⟨h1, h2⟩ := h hs ht ha hT
 refine ⟨fun hw => ?_, fun hw => hq _ _ (h2 hw)⟩
 have := h1 hw
 unfold Yld at this ⊢
 have out : ∀ {v' w'}, Out Q s μ H w v' w' → Out Q' s μ H w v' w' := fun ⟨v, H', μ', p, s', q, r⟩ => ⟨v, H', μ', p, s', hq _ _ q, r⟩
 generalize (execOp a.eval o).run P w = r at this ⊢
 cases r with
 | ok n w' =>
  cases n <;> first
   | exact out this
   | (refine Calls.mono this ?_
      rintro e w'' ⟨v, rfl, hp⟩
      exact ⟨v, rfl, out hp⟩)
   | exact this.elim
 | halt x w' => exact this.elim
def Is (p : PV) (s1 : VSt) : PV → VSt → Prop := fun p' s' => p' = p ∧ s' = s1
theorem vstep_not (hw : zCO ops t o = some false) : VStep P ops o t s (Is (.sc undef) s) := fun H T μ w a hs ht ha hT => by
 have := guard_sound ht hw
 exact ⟨fun h => (by rw [this] at h; cases h), fun _ => ⟨rfl, rfl⟩⟩
theorem zCE (hw : zCO ops t o = some true) {p : PV} {s1 : VSt} (hop : OpV P s t o p s1) : VStep P ops o t s (Is p s1) := fun H T μ w a hs ht ha hT => by
 have hwa := guard_sound ht hw
 refine ⟨fun _ => ?_, fun h => (by rw [hwa] at h; cases h)⟩
 obtain ⟨v, H1, e, hs1, hv, hf⟩ := hop hs ht
 obtain ⟨r', w', μ', hrun, hst, hn⟩ := op_sound ha.rel hT e ha.fresh.free
 have hw1 := (op_abs e ha.wf).wf
 unfold Yld
 rw [hrun]
 cases r' with
 | value v' => exact ⟨v, H1, μ', p, s1, ⟨rfl, rfl⟩, hst, hw1, hn, hs1, hv, hf⟩
 | skip =>
  have hn : v = undef := hn
  subst hn
  exact ⟨undef, H1, μ', p, s1, ⟨rfl, rfl⟩, hst, hw1, .scal zB7, hs1, hv, hf⟩
 | _ => exact hn.elim
theorem zB2 (hw : zCO ops t o = some true) {f : FuncId} {args : List PV} (hop : OpE P s t o f args) {Q : PV → VSt → Prop} (hc : VCall P f args s Q) : VStep P ops o t s Q := fun H T μ w a hs ht ha hT => by
 have hwa := guard_sound ht hw
 refine ⟨fun _ => ?_, fun h => (by rw [hwa] at h; cases h)⟩
 obtain ⟨vs, e, hvs⟩ := hop hs ht
 obtain ⟨r', w', μ', hrun, hst, hn⟩ := op_sound ha.rel hT e ha.fresh.free
 have hw1 := (op_abs e ha.wf).wf
 unfold Yld
 rw [hrun]
 cases r' with
 | enter g arr =>
  obtain ⟨rfl, hvs'⟩ := hn
  refine Calls.mono (hc hs hvs (ha.step hst hw1) hvs') ?_
  rintro e w'' ⟨v, v', H2, μ2, rfl, ⟨p, s1, hq, hs1, hv, hf⟩, s2, hw2, hvr⟩
  exact ⟨v', rfl, v, H2, μ2, p, s1, hq, hst.trans s2, hw2, hvr, hs1, hv, hf⟩
 | _ => exact hn.elim
theorem vops_step {k : Nat} {l : List Oper} {Q : VTm → VSt → Prop} (ho : ops[k]? = some o) (hd : dstOk t o.dst = true) {Q1 : PV → VSt → Prop} (hop : VStep P ops o t s Q1)
    (h : ∀ p s1, Q1 p s1 → VOps P ops (k + 1) l (t.setO o.dst p) s1 Q) : VOps P ops k (o :: l) t s Q := fun H T hs ht R a w μ ha hta hdf hR => by
 obtain ⟨h1, h2⟩ := hop hs ht ha hta
 rw [List.length_cons, List.range'_succ]
 simp only [wpOps, ho, wanted_eq hta]
 cases hwa : zCA ops T o with
 | false =>
  rw [if_neg (by simp)]
  obtain ⟨T1, hT1, ht1⟩ := ht.put (.sc zB7) (VTm.put_setO hd)
  exact h _ _ (h2 hwa) hs ht1 ha (hta.put (.scal zB7) hT1) (by rw [zDK]; exact hdf) hR
 | true =>
  rw [if_pos rfl]
  refine .inl ?_
  refine wp_of_yld (h1 hwa) ?_
  rintro v' w' ⟨v, H', μ', p, s', q, hst, hw', hvr, hs', hdv, hfr⟩
  obtain ⟨T1, hT1, ht1⟩ := (ht.fr hs hfr).put hdv (VTm.put_setO hd)
  exact h p s' q hs' ht1 (ha.step hst hw') ((hta.mono hst.le hst.ext).put hvr hT1) (by rw [zDK]; exact hdf)
   fun t' H2 a' w2 μ2 ⟨t2, s2, q2, hs2, ht2, hf2⟩ s => hR t' H2 a' w2 μ2 ⟨t2, s2, q2, hs2, ht2, hfr.trans hs.next hs.wf hs'.next hf2⟩ (hst.trans s)
def VSeq (P : Program) (ops : Array Oper) (l : List Oper) (t : VTm) (s : VSt) (Q : VTm → VSt → Prop) : Prop := ∀ k, ops.toList.drop k = l → VOps P ops k l t s Q
theorem zAE {Q : VTm → VSt → Prop} (h : Q t s) : VSeq P ops [] t s Q := fun k _ => vops_nil h
theorem vseq_step {l : List Oper} {Q : VTm → VSt → Prop} {Q1 : PV → VSt → Prop} (hop : VStep P ops o t s Q1) (hd : dstOk t o.dst = true)
    (h : ∀ p s1, Q1 p s1 → VSeq P ops l (t.setO o.dst p) s1 Q) : VSeq P ops (o :: l) t s Q := fun k hk => by
 obtain ⟨h1, h2⟩ := drop_cons hk
 exact vops_step (by rw [← Array.getElem?_toList]; exact h1) hd hop fun p s1 q => h p s1 q (k + 1) h2
theorem vseq_is {l : List Oper} {Q : VTm → VSt → Prop} {p : PV} {s1 : VSt} (hop : VStep P ops o t s (Is p s1)) (hd : dstOk t o.dst = true)
    (h : VSeq P ops l (t.setO o.dst p) s1 Q) : VSeq P ops (o :: l) t s Q := vseq_step hop hd fun p' s' ⟨e1, e2⟩ => by subst e1; subst e2; exact h
theorem zAB {Q : Ex → VTm → VSt → Prop} {id : Nat} {l : List Oper} (hl : ops.toList = l) (h : VSeq P ops l t s (Q .normal)) : VCode P (.region id ops false) t s Q := by
 subst hl
 exact vcode_region (h 0 rfl)
end Go.AE
namespace Go.AE
variable {P : Program} {ops : Array Oper} {wr : Nat → Bool} {Q : VTm → VSt → Prop} {t0 : VTm} {vals : Nat → PV}
def VTm.only (t : VTm) (K : List Nat) : VTm := ⟨t.n, fun k => if k ∈ K then t.m k else .sc undef⟩
def Stab (P : Program) (ops : Array Oper) (o : Oper) (t : VTm) (s : VSt) (p : PV) : Prop :=
 ∀ n, s.next ≤ n → VStep P ops o (t.only (o.looksAt ops)) (s.to n) fun p' s' => p' = p ∧ ∃ m, n ≤ m ∧ s' = s.to m
structure Pd where
 j : Nat
 o : Oper
 t : VTm
 p : PV
def befAt (ops : Array Oper) (j : Nat) : Nat := (Region.before ops).getD j 0
def DW (P : Program) (ops : Array Oper) (wr : Nat → Bool) (Q : VTm → VSt → Prop) : Nat → List Oper → VTm → VSt → List Pd → Prop
 | _, [], t, s, _ => ∀ n, s.next ≤ n → Q t (s.to n)
 | k, o :: l, t, s, pend => dstOk t o.dst = true ∧
  if wr k = true then ∀ n, s.next ≤ n → VStep P ops o (t.only (o.looksAt ops)) (s.to n) fun p s' =>
   (∀ q ∈ pend, (befAt ops k).testBit q.j = true ∨ Stab P ops q.o q.t s' q.p) ∧ DW P ops wr Q (k + 1) l (t.setO o.dst p) s' pend
  else ∃ p, Stab P ops o t s p ∧ DW P ops wr Q (k + 1) l (t.setO o.dst p) s (⟨k, o, t, p⟩ :: pend)
def noSel (o : Oper) : Bool := match o.op with | .select .. => false | _ => true
def drawChk (ops : Array Oper) (wr : Nat → Bool) : Bool :=
 edgesOk ops && tmpsOk ops (Region.before ops) && ops.toList.all noSel &&
  (List.range ops.size).all fun e => !wr e || (List.range ops.size).all fun j => Nat.ble j e || (befAt ops j).testBit e
def tenv (ops : Array Oper) (t0 : VTm) (vals : Nat → PV) : Nat → VTm
 | 0 => t0
 | j + 1 => match ops[j]? with | some o => (tenv ops t0 vals j).setO o.dst (vals j) | none => tenv ops t0 vals j
theorem tenv_congr {vals' : Nat → PV} : ∀ {j : Nat}, (∀ i, i < j → vals i = vals' i) → tenv ops t0 vals j = tenv ops t0 vals' j
 | 0, _ => rfl
 | j + 1, h => by
  simp only [tenv]
  rw [tenv_congr fun i hi => h i (by omega), h j (by omega)]
theorem setO_n (t : VTm) (d : Option Nat) (p : PV) : (t.setO d p).n = t.n := by cases d <;> rfl
theorem setO_m (t : VTm) (d : Option Nat) (p : PV) (k : Nat) : (t.setO d p).m k = if d = some k then p else t.m k := by
 cases d with
 | none => simp [VTm.setO]
 | some d =>
  show (t.set d p).m k = _
  rw [VTm.set_m]
  by_cases e : k = d
  ·subst e; simp
  ·rw [if_neg e, if_neg (by simp; exact fun h => e h.symm)]
theorem tenv_n : ∀ j, (tenv ops t0 vals j).n = t0.n
 | 0 => rfl
 | j + 1 => by
  simp only [tenv]
  split
  ·rw [setO_n]; exact tenv_n j
  ·exact tenv_n j
theorem tenv_same {k i : Nat} : ∀ {j : Nat}, i ≤ j → (∀ (m : Nat) (o : Oper), ops[m]? = some o → i ≤ m → m < j → o.dst ≠ some k) → (tenv ops t0 vals j).m k = (tenv ops t0 vals i).m k
 | 0, h, _ => by have : i = 0 := by omega
                 subst this; rfl
 | j + 1, h, hn => by
  rcases Nat.lt_or_ge j i with hlt | hge
  ·have : i = j + 1 := by omega
   subst this; rfl
  ·simp only [tenv]
   split
   ·rename_i o ho
    rw [setO_m, if_neg (hn j o ho hge (by omega))]
    exact tenv_same hge fun m o h1 h2 h3 => hn m o h1 h2 (by omega)
   ·exact tenv_same hge fun m o h1 h2 h3 => hn m o h1 h2 (by omega)
structure DInv (P : Program) (ops : Array Oper) (wr : Nat → Bool) (Q : VTm → VSt → Prop) (t0 : VTm) (s0 : VSt) (H0 : St) (w0 : World) (μ0 : Mu) (D : Nat → Prop)
    (e : Nat) (vals : Nat → PV) (sC : VSt) (n : Nat) (pend : List Pd) (μ : Mu) (A : St) (T : Tm) (a : Act) (w : World) : Prop where
 en : e ≤ ops.size
 dw : DW P ops wr Q e (ops.toList.drop e) (tenv ops t0 vals e) sC pend
 last : e = ops.size ∨ (wr e = true ∧ ¬ D e)
 wdone : ∀ i, i < e → wr i = true → D i
 ndone : ∀ i, e ≤ i → ¬ D i
 pend : ∀ (j : Nat) (o : Oper), j < e → wr j = false → ops[j]? = some o → ⟨j, o, tenv ops t0 vals j, vals j⟩ ∈ pend
 stab : ∀ (j : Nat) (o : Oper), j < e → ¬ D j → ops[j]? = some o → Stab P ops o (tenv ops t0 vals j) sC (vals j)
 dst : ∀ (j : Nat) (o : Oper), j < e → ops[j]? = some o → dstOk t0 o.dst = true
 nx : sC.next ≤ n
 sat : SatV (sC.to n) A
 fr : Fr s0 H0 (sC.to n) A
 at_ : At μ A w
 step : Step μ0 H0 w0 μ A w
 tn : T.n = t0.n
 tr : TmR w μ T a.tmps
 tm : ∀ k, ∃ π, π ≤ e ∧ (∀ (i : Nat) (o : Oper), ops[i]? = some o → π ≤ i → o.dst = some k → ¬ D i) ∧ (∀ (i : Nat) (o : Oper), ops[i]? = some o → i < π → o.dst = some k → D i) ∧
  DV A (Own' sC) ((tenv ops t0 vals π).m k) ((T.m.get k).getD undef)
 defers : a.defers = []
theorem dw_advance {s0 : VSt} {H0 : St} {w0 : World} {μ0 : Mu} {D : Nat → Prop} {sC : VSt} {n : Nat} {μ : Mu} {A : St} {T : Tm} {a : Act} {w : World} :
    ∀ (m e : Nat) (vals : Nat → PV) (pend : List Pd), ops.size - e = m → e ≤ ops.size → DW P ops wr Q e (ops.toList.drop e) (tenv ops t0 vals e) sC pend → (∀ i, i < e → wr i = true → D i) → (∀ i, e ≤ i → ¬ D i) →
     (∀ (j : Nat) (o : Oper), j < e → wr j = false → ops[j]? = some o → ⟨j, o, tenv ops t0 vals j, vals j⟩ ∈ pend) →
     (∀ (j : Nat) (o : Oper), j < e → ¬ D j → ops[j]? = some o → Stab P ops o (tenv ops t0 vals j) sC (vals j)) →
     (∀ (j : Nat) (o : Oper), j < e → ops[j]? = some o → dstOk t0 o.dst = true) →
     sC.next ≤ n → SatV (sC.to n) A → Fr s0 H0 (sC.to n) A → At μ A w → Step μ0 H0 w0 μ A w → T.n = t0.n → TmR w μ T a.tmps →
     (∀ k, ∃ π, π ≤ e ∧ (∀ (i : Nat) (o : Oper), ops[i]? = some o → π ≤ i → o.dst = some k → ¬ D i) ∧ (∀ (i : Nat) (o : Oper), ops[i]? = some o → i < π → o.dst = some k → D i) ∧
      DV A (Own' sC) ((tenv ops t0 vals π).m k) ((T.m.get k).getD undef)) → a.defers = [] →
     ∃ e' vals' pend', DInv P ops wr Q t0 s0 H0 w0 μ0 D e' vals' sC n pend' μ A T a w := by
 intro m
 induction m with
 | zero =>
  intro e vals pend hm he hdw h1 h2 h3 h4 h5 h6 h7 h8 h9 h10 h11 h12 h13 h14
  exact ⟨e, vals, pend, he, hdw, .inl (by omega), h1, h2, h3, h4, h5, h6, h7, h8, h9, h10, h11, h12, h13, h14⟩
 | succ m ih =>
  intro e vals pend hm he hdw h1 h2 h3 h4 h5 h6 h7 h8 h9 h10 h11 h12 h13 h14
  have hlt : e < ops.size := by omega
  cases hw : wr e with
  | true => exact ⟨e, vals, pend, he, hdw, .inr ⟨hw, h2 e (Nat.le_refl _)⟩, h1, h2, h3, h4, h5, h6, h7, h8, h9, h10, h11, h12, h13, h14⟩
  | false =>
   have hdrop : ops.toList.drop e = ops[e] :: ops.toList.drop (e + 1) := by
    rw [List.drop_eq_getElem_cons (by simpa using hlt)]; simp
   have hoe : ops[e]? = some ops[e] := by simp [hlt]
   rw [hdrop] at hdw
   obtain ⟨hd, hdw⟩ := hdw
   rw [hw, if_neg (by simp)] at hdw
   obtain ⟨p, hst, hdw⟩ := hdw
   let vals' : Nat → PV := fun i => if i = e then p else vals i
   have hv : ∀ i, i < e → vals i = vals' i := fun i hi => by show _ = if i = e then p else vals i; rw [if_neg (by omega)]
   have hve : vals' e = p := if_pos rfl
   have ht : ∀ j, j ≤ e → tenv ops t0 vals j = tenv ops t0 vals' j := fun j hj => tenv_congr fun i hi => hv i (by omega)
   have hte : tenv ops t0 vals' (e + 1) = (tenv ops t0 vals e).setO ops[e].dst p := by
    simp only [tenv, hoe]; rw [ht e (Nat.le_refl _), hve]
   refine ih (e + 1) vals' (⟨e, ops[e], tenv ops t0 vals e, p⟩ :: pend) (by omega) (by omega) (by rw [hte]; exact hdw) (fun i hi hwi => ?_) (fun i hi => h2 i (by omega)) (fun j o hj hwj ho => ?_)
    (fun j o hj hDj ho => ?_) (fun j o hj ho => ?_) h6 h7 h8 h9 h10 h11 h12 (fun k => ?_) h14
   ·rcases Nat.lt_or_ge i e with h | h
    ·exact h1 i h hwi
    ·have : i = e := by omega
     subst this; rw [hw] at hwi; cases hwi
   ·rcases Nat.lt_or_ge j e with h | h
    ·rw [← ht j (by omega), ← hv j h]; exact List.mem_cons_of_mem _ (h3 j o h hwj ho)
    ·have : j = e := by omega
     subst this
     rw [hoe] at ho; cases ho
     rw [← ht j (by omega), hve]; exact List.mem_cons_self
   ·rcases Nat.lt_or_ge j e with h | h
    ·rw [← ht j (by omega), ← hv j h]; exact h4 j o h hDj ho
    ·have : j = e := by omega
     subst this
     rw [hoe] at ho; cases ho
     rw [← ht j (by omega), hve]; exact hst
   ·rcases Nat.lt_or_ge j e with h | h
    ·exact h5 j o h ho
    ·have : j = e := by omega
     subst this
     rw [hoe] at ho; cases ho
     cases hdst : ops[j].dst with
     | none => rfl
     | some d => rw [hdst] at hd; simp only [dstOk, tenv_n] at hd ⊢; exact hd
   ·obtain ⟨π, q1, q2, q3, q4⟩ := h13 k
    exact ⟨π, by omega, q2, q3, by rw [← ht π q1]; exact q4⟩
theorem wr_before (hc : drawChk ops wr = true) {e j : Nat} (hw : wr e = true) (he : e < ops.size) (hj : j < ops.size) (hlt : e < j) : (befAt ops j).testBit e = true := by
 simp only [drawChk, Bool.and_eq_true] at hc
 have h1 := List.all_eq_true.1 hc.2 e (List.mem_range.2 he)
 rw [hw] at h1
 simp only [Bool.not_true, Bool.false_or] at h1
 have h2 := List.all_eq_true.1 h1 j (List.mem_range.2 hj)
 rcases Bool.or_eq_true_iff.1 h2 with h | h
 ·have := Nat.le_of_ble_eq_true h; omega
 ·exact h
theorem ready_done (hedge : edgesOk ops = true) {listed : Array Bool} (hcl : ∀ (j b : Nat), (Region.before ops)[j]? = some b → Done listed j → ∀ i, b.testBit i = true → Done listed i)
    {j b : Nat} (hb : (Region.before ops)[j]? = some b) (hj : j ∈ Region.ready .any ops listed) : ∀ i, b.testBit i = true → Done listed i := by
 intro i hi
 obtain ⟨_, o, ho, hall⟩ := mem_ready.1 hj
 obtain ⟨e, e1, e2, e3⟩ := before_bit hb ho hi
 have hd := hall e (by simpa using e1) e2
 rcases e3 with rfl | ⟨b', q1, q2⟩
 ·exact hd
 ·exact hcl _ _ q1 hd i q2
end Go.AE
namespace Go.AE
variable {P : Program} {ops : Array Oper} {wr : Nat → Bool} {Q : VTm → VSt → Prop} {t0 : VTm} {vals : Nat → PV}
theorem wantedA_only {o : Oper} {T : Tm} : zCA ops (T.only (o.looksAt ops)) o = zCA ops T o := by
 unfold zCA
 cases hg : o.guard with
 | none => rfl
 | some gb =>
  obtain ⟨g, b⟩ := gb
  dsimp only
  cases hd : (ops[g]?).bind (·.dst) with
  | none => rfl
  | some d =>
   dsimp only [Tm.only]
   rw [get_pickL, if_pos (looks_guard hg hd)]
theorem tmv_only {H : St} {X : Nat → Prop} {t : VTm} {T : Tm} {K : List Nat} (hn : t.n = T.n) (h : ∀ k ∈ K, DV H X (t.m k) ((T.m.get k).getD undef)) : TmV H X (t.only K) (T.only K) := by
 refine ⟨hn, fun k => ?_⟩
 show DV H X (if k ∈ K then t.m k else .sc undef) (((pickL T.m K).get k).getD undef)
 rw [get_pickL]
 by_cases hk : k ∈ K
 ·rw [if_pos hk, if_pos hk]; exact h k hk
 ·rw [if_neg hk, if_neg hk]; exact .sc zB7
def Tm.setO (T : Tm) (d : Option Nat) (v : Value) : Tm := match d with | some d => ⟨T.n, T.m.set d v⟩ | none => T
theorem Tm.put_setO {T : Tm} {d : Option Nat} {v : Value} (h : dstOk t0 d = true) (hn : T.n = t0.n) : T.put d v = some (T.setO d v) := by
 cases d with
 | none => rfl
 | some d =>
  have h : Nat.blt d t0.n = true := h
  simp only [Tm.put, hn, h, cond_true, Tm.setO]
theorem Tm.setO_n (T : Tm) (d : Option Nat) (v : Value) : (T.setO d v).n = T.n := by cases d <;> rfl
theorem Tm.setO_get (T : Tm) (d : Option Nat) (v : Value) (k : Nat) : (T.setO d v).m.get k = if d = some k then some v else T.m.get k := by
 cases d with
 | none => simp [Tm.setO]
 | some d =>
  show (T.m.set d v).get k = _
  rw [Tr.get_set]
  by_cases e : k = d
  ·subst e; simp
  ·rw [if_neg e, if_neg (by simp; exact fun h => e h.symm)]
theorem tm_put {D : Nat → Prop} {e j : Nat} {o : Oper} {A A' : St} {X X' : Nat → Prop} {T : Tm} {v : Value} (hj : ops[j]? = some o) (hje : j < e)
    (bef : ∀ (i : Nat) (o' : Oper) (d : Nat), ops[i]? = some o' → i < j → o.dst = some d → o'.dst = some d → D i) (aft : ∀ (i : Nat) (o' : Oper) (d : Nat), ops[i]? = some o' → j < i → o.dst = some d → o'.dst = some d → ¬ D i)
    (old : ∀ k, ∃ π, π ≤ e ∧ (∀ (i : Nat) (o : Oper), ops[i]? = some o → π ≤ i → o.dst = some k → ¬ D i) ∧ (∀ (i : Nat) (o : Oper), ops[i]? = some o → i < π → o.dst = some k → D i) ∧
     DV A X ((tenv ops t0 vals π).m k) ((T.m.get k).getD undef))
    (up : ∀ {p : PV} {u : Value}, DV A X p u → DV A' X' p u) (hpv : DV A' X' (vals j) v) :
    ∀ k, ∃ π, π ≤ e ∧ (∀ (i : Nat) (o : Oper), ops[i]? = some o → π ≤ i → o.dst = some k → ¬ Add D j i) ∧ (∀ (i : Nat) (o : Oper), ops[i]? = some o → i < π → o.dst = some k → Add D j i) ∧
     DV A' X' ((tenv ops t0 vals π).m k) (((T.setO o.dst v).m.get k).getD undef) := by
 intro k
 rw [Tm.setO_get]
 by_cases hk : o.dst = some k
 ·rw [if_pos hk]
  refine ⟨j + 1, hje, fun i o' ho' hi hd => ?_, fun i o' ho' hi hd => ?_, ?_⟩
  ·rintro (rfl | hD)
   ·omega
   ·exact aft i o' k ho' (by omega) hk hd hD
  ·rcases Nat.lt_or_ge i j with h | h
   ·exact .inr (bef i o' k ho' h hk hd)
   ·exact .inl (by omega)
  ·simp only [tenv, hj]
   rw [setO_m, if_pos hk]; exact hpv
 ·rw [if_neg hk]
  obtain ⟨π, q1, q2, q3, q4⟩ := old k
  refine ⟨π, q1, fun i o' ho' hi hd => ?_, fun i o' ho' hi hd => .inr (q3 i o' ho' hi hd), up q4⟩
  rintro (rfl | hD)
  ·rw [hj] at ho'; cases ho'; exact hk hd
  ·exact q2 i o' ho' hi hd hD
theorem bef_size (ops : Array Oper) : (Region.before ops).size = ops.size := by
 have hB : Region.before ops = ops.toList.foldl (fun acc o => acc.push (befOne acc o)) #[] := by
  unfold Region.before; rw [← Array.foldl_toList]; rfl
 obtain ⟨_, h2, _⟩ := bef_get ops.toList #[]
 rw [hB, h2]; simp
theorem bef_some {j : Nat} (hj : j < ops.size) : (Region.before ops)[j]? = some (befAt ops j) := by
 have h : j < (Region.before ops).size := by rw [bef_size]; exact hj
 unfold befAt
 rw [Array.getD_eq_getD_getElem?, Array.getElem?_eq_getElem h]; rfl
theorem dinv_step {s0 : VSt} {H0 : St} {w0 : World} {μ0 : Mu} {D : Nat → Prop} {e : Nat} {sC : VSt} {n : Nat} {pend : List Pd} {μ : Mu} {A : St} {T : Tm} {a : Act} {w : World}
    (n0 : s0.next = H0.next) (wf0 : WF H0) (hc : drawChk ops wr = true) (hcl : ∀ j, j < ops.size → D j → ∀ i, (befAt ops j).testBit i = true → D i)
    (hI : DInv P ops wr Q t0 s0 H0 w0 μ0 D e vals sC n pend μ A T a w) {j : Nat} (hj : j < ops.size) (hnd : ¬ D j) (hb : ∀ i, (befAt ops j).testBit i = true → D i)
    {K : Act → World → Prop} {R : Exit → Act → World → Prop}
    (hK : ∀ e' vals' sC' n' pend' μ' A' T' a' w', DInv P ops wr Q t0 s0 H0 w0 μ0 (Add D j) e' vals' sC' n' pend' μ' A' T' a' w' → K a' w') : wpOp P ops R j K a w := by
 have hc' := hc
 simp only [drawChk, Bool.and_eq_true] at hc'
 obtain ⟨⟨⟨hedge, hok⟩, hsel⟩, _⟩ := hc'
 have ho : ops[j]? = some ops[j] := by simp [hj]
 generalize hoj : ops[j] = o at ho
 have ns : ∀ cs b, o.op ≠ .select cs b := fun cs b he => by
  have := List.all_eq_true.1 hsel o (by rw [← hoj]; simp)
  unfold noSel at this; rw [he] at this; cases this
 have bef : ∀ (i : Nat) (o' : Oper) (k : Nat), ops[i]? = some o' → i < j → k ∈ opTmps ops o → o'.dst = some k → D i := fun i o' k ho' hij hk hd => by
  rcases tmpsOk_spec hok hij ho' ho (bef_some hj) with h | ⟨h, _⟩
  ·exact hb i h
  ·exact absurd hk (h k hd)
 have aft : ∀ (i : Nat) (o' : Oper) (k : Nat), ops[i]? = some o' → j < i → k ∈ opTmps ops o → o'.dst = some k → ¬ D i := fun i o' k ho' hij hk hd hD => by
  have hi : i < ops.size := (Array.getElem?_eq_some_iff.1 ho').1
  rcases tmpsOk_spec hok hij ho ho' (bef_some hi) with h | ⟨_, h⟩
  ·exact hnd (hcl i hi hD j h)
  ·exact absurd hk (h k hd)
 have hje : j ≤ e := by
  rcases Nat.lt_or_ge e j with h | h
  ·rcases hI.last with hl | ⟨h1, h2⟩
   ·omega
   ·exact absurd (hb e (wr_before hc h1 (by omega) hj h)) h2
  ·exact h
 have looks : ∀ k, k ∈ o.looksAt ops → DV A (Own' sC) ((tenv ops t0 vals j).m k) ((T.m.get k).getD undef) := fun k hk => by
  obtain ⟨π, q1, q2, q3, q4⟩ := hI.tm k
  have hk' := looks_sub hk
  have e1 : (tenv ops t0 vals j).m k = (tenv ops t0 vals π).m k := by
   rcases Nat.le_total π j with h | h
   ·exact tenv_same h fun m o' h1 h2 h3 h4 => q2 m o' h1 h2 h4 (bef m o' k h1 h3 hk' h4)
   ·refine (tenv_same h fun m o' h1 h2 h3 h4 => ?_).symm
    rcases Nat.lt_or_ge j m with h5 | h5
    ·exact aft m o' k h1 h5 hk' h4 (q3 m o' h1 h3 h4)
    ·have : m = j := by omega
     subst this; exact hnd (q3 m o' h1 h3 h4)
  rw [e1]; exact q4
 have htv : TmV A (Own' sC) ((tenv ops t0 vals j).only (o.looksAt ops)) (T.only (o.looksAt ops)) := tmv_only (by rw [tenv_n, hI.tn]) looks
 have htr : TmR w μ (T.only (o.looksAt ops)) (onlyA (o.looksAt ops) a).tmps := only_rel hI.tr.1 fun k _ => hI.tr.2 k
 have hex : execOp (onlyA (o.looksAt ops) a).eval o = execOp a.eval o := execOp_congr o ns fun x hx => onlyA_eval fun k ek => looks_op hx k ek
 have run : ∀ {Q1 : PV → VSt → Prop}, VStep P ops o ((tenv ops t0 vals j).only (o.looksAt ops)) (sC.to n) Q1 →
     (∀ v' w' v H' μ' p s', Q1 p s' → Step μ A w μ' H' w' → WF H' → VR w' μ' v v' → SatV s' H' → DV H' (Own' s') p v → Fr (sC.to n) A s' H' → K (a.put o.dst v') w') → wpOp P ops R j K a w := by
  intro Q1 h1 h2
  obtain ⟨y1, y2⟩ := h1 hI.sat htv hI.at_ htr
  rw [wantedA_only] at y1 y2
  rw [hex] at y1
  unfold wpOp
  rw [ho]
  dsimp only
  rw [wanted_only hI.tr.1 fun k _ => hI.tr.2 k]
  cases hwa : zCA ops T o with
  | false =>
   rw [if_neg (by simp)]
   exact h2 undef w undef A μ _ _ (y2 hwa) (.refl hI.at_.rel) hI.at_.wf (.scal zB7) hI.sat (.sc zB7) (.refl _ _)
  | true =>
   rw [if_pos rfl]
   refine .inl (wp_of_yld (y1 hwa) ?_)
   rintro v' w' ⟨v, H', μ', p, s', q, r⟩
   exact h2 v' w' v H' μ' p s' q r.1 r.2.1 r.2.2.1 r.2.2.2.1 r.2.2.2.2.1 r.2.2.2.2.2
 have ns1 := hI.sat.next
 have own : ∀ {k : Nat} {d : Nat}, o.dst = some d → d ∈ opTmps ops o := fun {k d} hd => by unfold opTmps; rw [hd]; simp
 rcases Nat.lt_or_ge j e with hlt | hge
 ·
  refine run (hI.stab j o hlt hnd ho n hI.nx) ?_
  rintro v' w' v H' μ' p s' ⟨rfl, m, hm, rfl⟩ st hw' hvr hs' hdv hfr
  have hfr' : Fr (sC.to n) A (sC.to m) H' := hfr
  obtain hput := Tm.put_setO (v := v) (hI.dst j o hlt ho) hI.tn
  refine hK e vals sC m pend μ' H' (T.setO o.dst v) _ w' ⟨hI.en, hI.dw, ?_, fun i h1 h2 => .inr (hI.wdone i h1 h2), fun i hi => ?_, hI.pend, fun i o' h1 h2 h3 => hI.stab i o' h1 (fun h => h2 (.inr h)) h3, hI.dst,
   Nat.le_trans hI.nx hm, hs', hI.fr.trans n0 wf0 ns1 hfr', hI.at_.step st hw', hI.step.trans st, by rw [Tm.setO_n]; exact hI.tn, (hI.tr.mono st.le st.ext).put hvr hput, ?_, by rw [zDK]; exact hI.defers⟩
  ·rcases hI.last with h | ⟨h1, h2⟩
   ·exact .inl h
   ·refine .inr ⟨h1, ?_⟩
    rintro (h | h)
    ·omega
    ·exact h2 h
  ·rintro (h | h)
   ·omega
   ·exact hI.ndone i hi h
  ·refine tm_put ho hlt (fun i o' d h1 h2 h3 h4 => bef i o' d h1 h2 (own (k := 0) h3) h4) (fun i o' d h1 h2 h3 h4 => aft i o' d h1 h2 (own (k := 0) h3) h4) hI.tm (fun h => ?_) hdv
   exact h.fr hI.sat.wf hfr'.keep fun x hx => hfr'.own x (by rw [ns1]; exact hx)
 ·
  have : j = e := by omega
  subst this
  have hw : wr j = true := by
   rcases hI.last with h | ⟨h, _⟩
   ·omega
   ·exact h
  have hdw := hI.dw
  have hdrop : ops.toList.drop j = o :: ops.toList.drop (j + 1) := by
   rw [List.drop_eq_getElem_cons (by simpa using hj), ← hoj]; simp
  rw [hdrop] at hdw
  obtain ⟨hd, hdw⟩ := hdw
  rw [if_pos hw] at hdw
  refine run (hdw n hI.nx) ?_
  rintro v' w' v H' μ' p s' ⟨hpend, hnext⟩ st hw' hvr hs' hdv hfr
  let vals' : Nat → PV := fun i => if i = j then p else vals i
  have hv : ∀ i, i < j → vals i = vals' i := fun i hi => by show _ = if i = j then p else vals i; rw [if_neg (by omega)]
  have hve : vals' j = p := if_pos rfl
  have ht : ∀ i, i ≤ j → tenv ops t0 vals i = tenv ops t0 vals' i := fun i hi => tenv_congr fun k hk => hv k (by omega)
  have hte : tenv ops t0 vals' (j + 1) = (tenv ops t0 vals j).setO o.dst p := by
   simp only [tenv, ho]; rw [ht j (Nat.le_refl _), hve]
  have hd0 : dstOk t0 o.dst = true := by
   cases hdst : o.dst with
   | none => rfl
   | some d => rw [hdst] at hd; simp only [dstOk, tenv_n] at hd ⊢; exact hd
  obtain hput := Tm.put_setO (v := v) hd0 hI.tn
  have hstab : ∀ (i : Nat) (o' : Oper), i < j → ¬ Add D j i → ops[i]? = some o' → Stab P ops o' (tenv ops t0 vals' i) s' (vals' i) := fun i o' hi hDi ho' => by
   have hDi : ¬ D i := fun h => hDi (.inr h)
   have hwi : wr i = false := by
    cases h : wr i with
    | false => rfl
    | true => exact absurd (hI.wdone i hi h) hDi
   rcases hpend _ (hI.pend i o' hi hwi ho') with h | h
   ·exact absurd (hb i h) hDi
   ·rw [← ht i (by omega), ← hv i hi]; exact h
  suffices h : ∃ e' vals'' pend', DInv P ops wr Q t0 s0 H0 w0 μ0 (Add D j) e' vals'' s' s'.next pend' μ' H' (T.setO o.dst v) (a.put o.dst v') w' by
   obtain ⟨e', vals'', pend', hI'⟩ := h
   exact hK _ _ _ _ _ _ _ _ _ _ hI'
  refine dw_advance _ (j + 1) vals' pend rfl (by omega) (by rw [hte]; exact hnext) (fun i hi hwi => ?_) (fun i hi => ?_) (fun i o' hi hwi ho' => ?_) (fun i o' hi hDi ho' => ?_) (fun i o' hi ho' => ?_) (Nat.le_refl _) hs' (hI.fr.trans n0 wf0 ns1 hfr) (hI.at_.step st hw') (hI.step.trans st)
   (by rw [Tm.setO_n]; exact hI.tn) ((hI.tr.mono st.le st.ext).put hvr hput) ?_ (by rw [zDK]; exact hI.defers)
  ·rcases Nat.lt_or_ge i j with h | h
   ·exact .inr (hI.wdone i h hwi)
   ·exact .inl (by omega)
  ·rintro (h | h)
   ·omega
   ·exact hI.ndone i (by omega) h
  ·rcases Nat.lt_or_ge i j with h | h
   ·rw [← ht i (by omega), ← hv i h]; exact hI.pend i o' h hwi ho'
   ·have : i = j := by omega
    subst this; rw [hw] at hwi; cases hwi
  ·rcases Nat.lt_or_ge i j with h | h
   ·exact hstab i o' h hDi ho'
   ·exact absurd (Or.inl (by omega)) hDi
  ·rcases Nat.lt_or_ge i j with h | h
   ·exact hI.dst i o' h ho'
   ·have : i = j := by omega
    subst this
    rw [ho] at ho'; cases ho'; exact hd0
  ·refine tm_put ho (Nat.lt_succ_self j) (fun i o' d h1 h2 h3 h4 => bef i o' d h1 h2 (own (k := 0) h3) h4) (fun i o' d h1 h2 h3 h4 => aft i o' d h1 h2 (own (k := 0) h3) h4) (A := A) (X := Own' sC) (fun k => ?_) (fun h => ?_) (by rw [hve]; exact hdv)
   ·obtain ⟨π, q1, q2, q3, q4⟩ := hI.tm k
    exact ⟨π, by omega, q2, q3, by rw [← ht π q1]; exact q4⟩
   ·exact h.fr hI.sat.wf hfr.keep fun x hx => hfr.own x (by rw [ns1]; exact hx)
end Go.AE
namespace Go.AE
variable {P : Program} {ops : Array Oper} {wr : Nat → Bool} {t : VTm} {s : VSt}
theorem vdraw_any {Q : VTm → VSt → Prop} {t0 : VTm} {s0 : VSt} {H0 : St} {w0 : World} {μ0 : Mu} {R : Exit → Act → World → Prop} (n0 : s0.next = H0.next) (wf0 : WF H0) (hc : drawChk ops wr = true)
    (hR : ∀ t' s' A T a w μ, Q t' s' → SatV s' A → TmV A (Own' s') t' T → Fr s0 H0 s' A → Step μ0 H0 w0 μ A w → WF A → TmR w μ T a.tmps → a.defers = [] → R .normal a w) :
    ∀ (fuel : Nat) (listed : Array Bool) (e : Nat) (vals : Nat → PV) (sC : VSt) (n : Nat) (pend : List Pd) (μ : Mu) (A : St) (T : Tm) (a : Act) (w : World), listed.size = ops.size → listed.toList.count false ≤ fuel →
     (∀ j, j < ops.size → Done listed j → ∀ i, (befAt ops j).testBit i = true → Done listed i) →
     DInv P ops wr Q t0 s0 H0 w0 μ0 (Done listed) e vals sC n pend μ A T a w → wpAny P .any ops R fuel listed a w := by
 have hc' := hc
 simp only [drawChk, Bool.and_eq_true] at hc'
 have hedge := hc'.1.1.1
 have all_done : ∀ {listed : Array Bool}, listed.size = ops.size → Region.ready .any ops listed = [] → ∀ j, j < ops.size → Done listed j := by
  intro listed hsz hnil j
  induction j using Nat.strongRecOn with
  | _ j ih =>
   intro hj
   cases hd : listed.getD j true with
   | true =>
    have : listed.getD j false = true := by
     simp only [Array.getD, hsz, hj, dif_pos] at hd ⊢; exact hd
    exact this
   | false =>
    have : j ∈ Region.ready .any ops listed := mem_ready.2 ⟨hd, ops[j], by simp [hj], fun e he hb => by
     have hlt := edgesOk_spec hedge (j := j) (o := ops[j]) (by simp [hj]) (by simpa using he) hb
     exact ih e.on hlt (by omega)⟩
    rw [hnil] at this; cases this
 have fin : ∀ {listed : Array Bool} {e : Nat} {vals : Nat → PV} {sC : VSt} {n : Nat} {pend : List Pd} {μ : Mu} {A : St} {T : Tm} {a : Act} {w : World}, (∀ j, j < ops.size → Done listed j) →
     DInv P ops wr Q t0 s0 H0 w0 μ0 (Done listed) e vals sC n pend μ A T a w → R .normal a w := by
  intro listed e vals sC n pend μ A T a w hall hI
  have he : e = ops.size := by
   rcases hI.last with h | ⟨_, h⟩
   ·exact h
   ·rcases Nat.lt_or_ge e ops.size with h' | h'
    ·exact absurd (hall e h') h
    ·have := hI.en; omega
  subst he
  have hdw := hI.dw
  rw [List.drop_of_length_le (by simp)] at hdw
  refine hR _ _ A T a w μ (hdw n hI.nx) hI.sat ⟨by rw [tenv_n, hI.tn], fun k => ?_⟩ hI.fr hI.step hI.at_.wf hI.tr hI.defers
  obtain ⟨π, q1, q2, q3, q4⟩ := hI.tm k
  rw [tenv_same q1 fun m o h1 h2 h3 h4 => q2 m o h1 h2 h4 (hall m h3)]
  exact q4
 have cl : ∀ {listed : Array Bool}, (∀ j, j < ops.size → Done listed j → ∀ i, (befAt ops j).testBit i = true → Done listed i) →
     ∀ (j b : Nat), (Region.before ops)[j]? = some b → Done listed j → ∀ i, b.testBit i = true → Done listed i := by
  intro listed h j b hb hd i hi
  have hj : j < ops.size := by rw [← bef_size]; exact (Array.getElem?_eq_some_iff.1 hb).1
  have := bef_some hj
  rw [hb] at this; cases this
  exact h j hj hd i hi
 intro fuel
 induction fuel with
 | zero =>
  intro listed e vals sC n pend μ A T a w hsz hcn hcl hI
  have hnil : Region.ready .any ops listed = [] := by
   cases hr : Region.ready .any ops listed with
   | nil => rfl
   | cons j rest =>
    have hj : j ∈ Region.ready .any ops listed := by rw [hr]; exact List.mem_cons_self
    obtain ⟨h1, o, h2, _⟩ := mem_ready.1 hj
    have hjs : j < listed.size := by rw [hsz]; exact (Array.getElem?_eq_some_iff.1 h2).1
    have := count_set hjs h1
    omega
  exact ⟨hnil, fin (all_done hsz hnil) hI⟩
 | succ fuel ih =>
  intro listed e vals sC n pend μ A T a w hsz hcn hcl hI
  refine ⟨fun hnil => fin (all_done hsz hnil) hI, fun j hj => ?_⟩
  obtain ⟨h1, o, h2, _⟩ := mem_ready.1 hj
  have hjo : j < ops.size := (Array.getElem?_eq_some_iff.1 h2).1
  have hjs : j < listed.size := by omega
  have hnd : ¬ Done listed j := by
   intro hd
   have hd : listed.getD j false = true := hd
   simp only [Array.getD, hjs, dif_pos] at hd h1
   rw [hd] at h1; cases h1
  have hbits := ready_done hedge (cl hcl) (bef_some hjo) hj
  refine dinv_step n0 wf0 hc hcl hI hjo hnd hbits fun e' vals' sC' n' pend' μ' A' T' a' w' hI' => ?_
  refine ih _ e' vals' sC' n' pend' μ' A' T' a' w' (by simp [hsz]) (by have := count_set hjs h1; omega) ?_ (by rw [done_set hjs]; exact hI')
  rw [done_set hjs]
  rintro i hi (rfl | hD) m hm
  ·exact .inr (hbits m hm)
  ·exact .inr (hcl i hi hD m hm)
theorem zBH (hm : P.follows .mixedOrders = true) {Q : Ex → VTm → VSt → Prop} {id : Nat} {l : List Oper} (wr : Nat → Bool) (hl : ops.toList = l) (hc : drawChk ops wr = true) (h : DW P ops wr (Q .normal) 0 l t s []) :
    VCode P (.region id ops true) t s Q := by
 subst hl
 intro H T hs ht R a w μ ha hta hdf hR
 refine wp_region_any hm ?_
 have hstep := Step.drew ha.rel (w.drawn + 1)
 have nd : ∀ j, ¬ Done (Array.replicate ops.size false) j := fun j hj => by
  simp only [Done, Array.getD_eq_getD_getElem?, Array.getElem?_replicate] at hj
  split at hj <;> cases hj
 obtain ⟨e, vals, pend, hI⟩ : ∃ e vals pend, DInv P ops wr (Q .normal) t s H w μ (Done (Array.replicate ops.size false)) e vals s s.next pend μ H T a { w with drawn := w.drawn + 1 } :=
  dw_advance _ 0 (fun _ => .sc undef) [] rfl (Nat.zero_le _) h (fun i hi => by omega) (fun i _ => nd i) (fun j o hj => by omega) (fun j o hj => by omega) (fun j o hj => by omega) (Nat.le_refl _) hs (.refl _ _) (ha.step hstep ha.wf) hstep ht.1.symm
   (hta.mono hstep.le hstep.ext) (fun k => ⟨0, Nat.zero_le _, fun i _ _ _ _ => nd i, fun i _ _ h => by omega, ht.2 k⟩) hdf
 exact vdraw_any hs.next ha.wf hc (fun t' s' A T' a' w' μ' q h1 h2 h3 h4 h5 h6 h7 => hR .normal T' A a' w' μ' ⟨t', s', q, h1, h2, h3⟩ h4 h5 h6 h7)
  ops.size _ e vals s s.next pend μ H T a _ (by simp) (by simp) (fun j _ hj => absurd hj (nd j)) hI
theorem zBZ {k : Nat} {Q : VTm → VSt → Prop} {pend : List Pd} (h : ∀ n, s.next ≤ n → Q t (s.to n)) : DW P ops wr Q k [] t s pend := h
theorem dw_op {k : Nat} {o : Oper} {l : List Oper} {Q : VTm → VSt → Prop} {pend : List Pd} {p : PV} (hw : wr k = false) (hs : Stab P ops o t s p) (hd : dstOk t o.dst = true) (h : DW P ops wr Q (k + 1) l (t.setO o.dst p) s (⟨k, o, t, p⟩ :: pend)) :
    DW P ops wr Q k (o :: l) t s pend := ⟨hd, by rw [hw, if_neg (by simp)]; exact ⟨p, hs, h⟩⟩
theorem dw_wr {k : Nat} {o : Oper} {l : List Oper} {Q : VTm → VSt → Prop} {pend : List Pd} (hw : wr k = true) (hd : dstOk t o.dst = true)
    (h : ∀ n, s.next ≤ n → VStep P ops o (t.only (o.looksAt ops)) (s.to n) fun p s' => (∀ q ∈ pend, (befAt ops k).testBit q.j = true ∨ Stab P ops q.o q.t s' q.p) ∧ DW P ops wr Q (k + 1) l (t.setO o.dst p) s' pend) :
    DW P ops wr Q k (o :: l) t s pend := ⟨hd, by rw [if_pos hw]; exact h⟩
theorem stab_is {o : Oper} {p : PV} (h : ∀ n, s.next ≤ n → VStep P ops o (t.only (o.looksAt ops)) (s.to n) (Is p (s.to n))) : Stab P ops o t s p :=
 fun n hn => (h n hn).mono fun p' s' ⟨e1, e2⟩ => ⟨e1, n, Nat.le_refl _, e2⟩
end Go.AE
namespace Go.AE
variable {P : Program} {ops : Array Oper} {t : VTm} {s : VSt}
theorem lk0 {d : Nat} {p : PV} : (t.set d p).m d = p := by rw [VTm.set_m, if_pos rfl]
theorem lk1 {k d : Nat} {p q : PV} (h : Nat.beq k d = false) (g : t.m k = q) : (t.set d p).m k = q := by
 show (bif Nat.beq k d then p else t.m k) = q
 rw [h]; exact g
theorem lk2 {k a b : Nat} {p q r : PV} (h : (Nat.beq k a || Nat.beq k b) = false) (g : t.m k = r) : ((t.set a p).set b q).m k = r := by
 rw [Bool.or_eq_false_iff] at h
 exact lk1 h.2 (lk1 h.1 g)
theorem lk4 {k a b c d : Nat} {p q r s x : PV} (h : ((Nat.beq k a || Nat.beq k b) || (Nat.beq k c || Nat.beq k d)) = false) (g : t.m k = x) : ((((t.set a p).set b q).set c r).set d s).m k = x := by
 rw [Bool.or_eq_false_iff] at h
 exact lk2 h.2 (lk2 h.1 g)
theorem lk8 {k a b c d e f i j : Nat} {p q r s u v w y x : PV} (h : (((Nat.beq k a || Nat.beq k b) || (Nat.beq k c || Nat.beq k d)) || ((Nat.beq k e || Nat.beq k f) || (Nat.beq k i || Nat.beq k j))) = false) (g : t.m k = x) :
    ((((((((t.set a p).set b q).set c r).set d s).set e u).set f v).set i w).set j y).m k = x := by
 rw [Bool.or_eq_false_iff] at h
 exact lk4 h.2 (lk4 h.1 g)
theorem lk16 {k a b c d e f i j a' b' c' d' e' f' i' j' : Nat} {p q r s u v w y p' q' r' s' u' v' w' y' x : PV}
    (h : ((((Nat.beq k a || Nat.beq k b) || (Nat.beq k c || Nat.beq k d)) || ((Nat.beq k e || Nat.beq k f) || (Nat.beq k i || Nat.beq k j))) || (((Nat.beq k a' || Nat.beq k b') || (Nat.beq k c' || Nat.beq k d')) || ((Nat.beq k e' || Nat.beq k f') || (Nat.beq k i' || Nat.beq k j')))) = false) (g : t.m k = x) :
    ((((((((((((((((t.set a p).set b q).set c r).set d s).set e u).set f v).set i w).set j y).set a' p').set b' q').set c' r').set d' s').set e' u').set f' v').set i' w').set j' y').m k = x := by
 rw [Bool.or_eq_false_iff] at h
 exact lk8 h.2 (lk8 h.1 g)
theorem lkO {k : Nat} {K : List Nat} {q : PV} (h : (K.contains k) = true) (g : t.m k = q) : (t.only K).m k = q := by
 show (if k ∈ K then t.m k else .sc undef) = q
 rw [if_pos (by simpa using h)]; exact g
theorem ev_t {k : Nat} {p : PV} (h : t.m k = p) : t.ev (.tmp k) = some p := by rw [VTm.ev, h]
theorem ev_c {v : Value} (h : scal v = true) : t.ev (.const v) = some (.sc v) := by rw [VTm.ev, if_pos h]
theorem ev_f {f : FuncId} : t.ev (.func f) = some (.fn (.func f) [] []) := rfl
theorem g0 {o : Oper} (h : o.guard = none) : zCO ops t o = some true := by unfold zCO; rw [h]
theorem g1 {o : Oper} {j d : Nat} {want b r : Bool} (h : o.guard = some (j, want)) (hj : (ops[j]?).bind (·.dst) = some d) (hv : t.m d = .sc (.bool b)) (hr : (b == want) = r) : zCO ops t o = some r := by
 unfold zCO; rw [h]; dsimp only; rw [hj]; dsimp only; rw [hv]; dsimp only; rw [hr]
theorem evs0 : t.evs [] = some [] := rfl
theorem evs1 {x : Operand} {xs : List Operand} {p : PV} {ps : List PV} (h : t.ev x = some p) (g : t.evs xs = some ps) : t.evs (x :: xs) = some (p :: ps) := by simp only [VTm.evs, h, g]
theorem vd {o : Oper} {l : List Oper} {Q : VTm → VSt → Prop} {p : PV} {s1 : VSt} {d : Nat} (hg : zCO ops t o = some true) (hop : OpV P s t o p s1) (hd : o.dst = some d) (hn : Nat.blt d t.n = true)
    (h : VSeq P ops l (t.set d p) s1 Q) : VSeq P ops (o :: l) t s Q :=
 vseq_is (zCE hg hop) (by rw [hd]; exact hn) (by rw [hd]; exact h)
theorem vn {o : Oper} {l : List Oper} {Q : VTm → VSt → Prop} {p : PV} {s1 : VSt} (hg : zCO ops t o = some true) (hop : OpV P s t o p s1) (hd : o.dst = none)
    (h : VSeq P ops l t s1 Q) : VSeq P ops (o :: l) t s Q :=
 vseq_is (zCE hg hop) (by rw [hd]; rfl) (by rw [hd]; exact h)
theorem zAZ {o : Oper} {l : List Oper} {Q : VTm → VSt → Prop} {d : Nat} (hg : zCO ops t o = some false) (hd : o.dst = some d) (hn : Nat.blt d t.n = true) (h : VSeq P ops l (t.set d (.sc undef)) s Q) : VSeq P ops (o :: l) t s Q :=
 vseq_is (vstep_not hg) (by rw [hd]; exact hn) (by rw [hd]; exact h)
theorem vc {o : Oper} {l : List Oper} {Q : VTm → VSt → Prop} {d : Nat} {Q1 : PV → VSt → Prop} (hop : VStep P ops o t s Q1) (hd : o.dst = some d) (hn : Nat.blt d t.n = true)
    (h : ∀ p s1, Q1 p s1 → VSeq P ops l (t.set d p) s1 Q) : VSeq P ops (o :: l) t s Q :=
 vseq_step hop (by rw [hd]; exact hn) fun p s1 q => by rw [hd]; exact h p s1 q
def PWk (p q : PV) : Prop := ∀ ⦃H : St⦄ ⦃X : Nat → Prop⦄ ⦃v : Value⦄, DV H X p v → DV H X q v
theorem PWk.refl (p : PV) : PWk p p := fun _ _ _ h => h
theorem PWk.trans {p q r : PV} (h : PWk p q) (k : PWk q r) : PWk p r := fun _ _ _ d => k (h d)
theorem pwk_gl {f e z : Nat} {xs : List (List PV)} : PWk (.gl f e z xs) (.sl z xs) := fun H X v h => by
 cases h with
 | gl hn h1 h2 h3 h4 h5 h6 h7 h8 h9 => exact .sl ⟨hn, .inl rfl⟩ (.inr ⟨_, _, _, _, h1, h2, h3, h4⟩) h8 h9
theorem pwk_nil {z : Nat} : PWk (.sc (.slice none 0 0)) (.sl z []) := fun H X v h => by
 cases h with
 | sc h => exact .sn
theorem pwk_agg {c : Array Value} : PWk (.sc (.agg c)) (.ag (c.toList.map .sc)) := fun H X v h => by
 cases h with
 | sc h =>
  refine .ag (by simp) fun i x u h1 h2 => ?_
  rw [List.getElem?_map, Option.map_eq_some_iff] at h1
  obtain ⟨y, hy, rfl⟩ := h1
  rw [h2] at hy; cases hy
  exact .sc (scal_of_scal1 (List.all_eq_true.1 h u (List.mem_of_getElem? h2)))
theorem pwk_ag {cs ds : List PV} (hl : cs.length = ds.length) (h : ∀ (i : Nat) (x y : PV), cs[i]? = some x → ds[i]? = some y → PWk x y) : PWk (.ag cs) (.ag ds) := fun H X v hv => by
 cases hv with
 | ag h1 h2 =>
  refine .ag (by rw [← hl]; exact h1) fun i y u hy hu => ?_
  have hi : i < cs.length := by rw [hl]; exact (List.getElem?_eq_some_iff.1 hy).1
  have hx : cs[i]? = some cs[i] := by simp
  exact h i _ y hx hy (h2 i _ u hx hu)
theorem pwk_tp {cs ds : List PV} (hl : cs.length = ds.length) (h : ∀ (i : Nat) (x y : PV), cs[i]? = some x → ds[i]? = some y → PWk x y) : PWk (.tp cs) (.tp ds) := fun H X v hv => by
 cases hv with
 | tp h1 h2 =>
  refine .tp (by rw [← hl]; exact h1) fun i y u hy hu => ?_
  have hi : i < cs.length := by rw [hl]; exact (List.getElem?_eq_some_iff.1 hy).1
  have hx : cs[i]? = some cs[i] := by simp
  exact h i _ y hx hy (h2 i _ u hx hu)
inductive PWks : List PV → List PV → Prop
 | nil : PWks [] []
 | cons {p q : PV} {ps qs : List PV} : PWk p q → PWks ps qs → PWks (p :: ps) (q :: qs)
theorem PWks.length {ps qs : List PV} (h : PWks ps qs) : ps.length = qs.length := by induction h <;> simp_all
theorem PWks.get {ps qs : List PV} (h : PWks ps qs) : ∀ (i : Nat) (x y : PV), ps[i]? = some x → qs[i]? = some y → PWk x y := by
 induction h with
 | nil => intro i x y h; simp at h
 | cons h1 _ ih =>
  intro i x y hx hy
  cases i with
  | zero => simp at hx hy; subst hx; subst hy; exact h1
  | succ i => simp only [List.getElem?_cons_succ] at hx hy; exact ih i x y hx hy
theorem PWks.ag {ps qs : List PV} (h : PWks ps qs) : PWk (.ag ps) (.ag qs) := pwk_ag h.length h.get
theorem PWks.tp {ps qs : List PV} (h : PWks ps qs) : PWk (.tp ps) (.tp qs) := pwk_tp h.length h.get
theorem PWks.refl : ∀ (ps : List PV), PWks ps ps
 | [] => .nil
 | p :: ps => .cons (.refl p) (.refl ps)
theorem zDR {o : Oper} {p q : PV} {s1 : VSt} (h : OpV P s t o p s1) (k : PWk p q) : OpV P s t o q s1 := fun H T hs ht => by
 obtain ⟨v, H1, a, b, c, d⟩ := h hs ht
 exact ⟨v, H1, a, b, k c, d⟩
theorem alloc_cell (H : St) (vs : List Value) (esz k : Nat) : (H.alloc vs esz).cell? H.next k = vs[k]? := by
 unfold St.cell? St.alloc
 dsimp only
 rw [Tr.get_set_same]
 dsimp only
 rw [Tr.get_set_same]
 dsimp only
 rw [show Nat.beq 0 0 = true from rfl]
 exact get_new vs k
theorem own_lt {H : St} (hs : SatV s H) {f : Nat} (h : Own' s f) : f < H.next := by
 obtain ⟨b, cs, hc, hf⟩ := h
 obtain ⟨_, _, fm, _, h2, _⟩ := hs.mem _ _ hc
 rw [← hf]
 exact hs.wf.fams _ _ h2
theorem alloc_frozen {H : St} (hs : SatV s H) (vs : List Value) (esz : Nat) : Frozen (H.alloc vs esz) (Own' s) H.next :=
 .inr ⟨Tr.setList .nil 0 vs, H.next, 0, ⟨0, vs.length, esz⟩, Tr.get_set_same _ _ _, Tr.get_set_same _ _ _, rfl, fun h => by have := own_lt hs h; omega⟩
theorem satV_fresh {H : St} (hs : SatV s H) (vs : List Value) (esz : Nat) : SatV (s.to (s.next + 1)) (H.alloc vs esz) ∧ Fr s H (s.to (s.next + 1)) (H.alloc vs esz) := by
 have keep := keep_alloc (X := Own' s) hs.wf vs esz
 have up : ∀ {p : PV} {v : Value}, DV H (Own' s) p v → DV (H.alloc vs esz) (Own' s) p v := fun h => h.keep keep
 refine ⟨⟨by show s.next + 1 = H.next + 1; rw [hs.next], ((abs_alloc H vs esz) hs.wf).wf, fun b c hb => ?_, fun b es hb => ?_, fun f e he => ?_, hs.inj, fun b c hb => by
  obtain ⟨fm, q1, q2⟩ := hs.ext b c hb
  have := hs.wf.fams _ _ q1
  exact ⟨fm, by show (H.fams.set H.next _).get (s.fo b) = _; rw [Tr.get_set_ne _ _ (by omega)]; exact q1, q2⟩⟩, ⟨keep, Nat.le_succ _, fun f _ ho => ho⟩⟩
 ·obtain ⟨c', g, fm, q1, q2, q3, q4⟩ := hs.mem b c hb
  have hbn : b ≠ H.next := by have := (hs.wf.obs b _ q1).1; omega
  refine ⟨c', g, fm, ?_, ?_, q3, fun i x hx => let ⟨u, a, b⟩ := q4 i x hx; ⟨u, a, up b⟩⟩
  ·show (H.obs.set H.next _).get b = _
   rw [Tr.get_set_ne _ _ hbn]; exact q1
  ·have := hs.wf.fams _ _ q2
   show (H.fams.set H.next _).get (s.fo b) = _
   rw [Tr.get_set_ne _ _ (by omega)]; exact q2
 ·obtain ⟨es', q1, q2, q3⟩ := hs.maps b es hb
  have := (hs.wf.obs b _ q1).1
  refine ⟨es', ?_, q2, fun i e he => let ⟨e', a, b, c⟩ := q3 i e he; ⟨e', a, b, up c⟩⟩
  show (H.obs.set H.next _).get b = _
  rw [Tr.get_set_ne _ _ (by omega)]; exact q1
 ·obtain ⟨q1, fm, q2, q3⟩ := hs.grow f e he
  have hf := hs.wf.fams f fm q2
  refine ⟨q1, fm, ?_, q3⟩
  show (H.fams.set H.next _).get f = _
  rw [Tr.get_set_ne _ _ (by omega)]; exact q2
theorem DVs.get {H : St} {X : Nat → Prop} {ps : List PV} {us : List Value} (h : DVs H X ps us) : ∀ (i : Nat) (x : PV), ps[i]? = some x → ∃ u, us[i]? = some u ∧ DV H X x u := by
 induction h with
 | nil => intro i x h; simp at h
 | cons h1 _ ih =>
  intro i x h
  cases i with
  | zero => simp at h; subst h; exact ⟨_, by simp, h1⟩
  | succ i => simp only [List.getElem?_cons_succ] at h ⊢; exact ih i x h
theorem DVs.length {H : St} {X : Nat → Prop} {ps : List PV} {us : List Value} (h : DVs H X ps us) : ps.length = us.length := by induction h <;> simp_all
theorem DVs.mk {H : St} {X : Nat → Prop} : ∀ {ps : List PV} {us : List Value}, ps.length = us.length → (∀ (i : Nat) (x : PV) (u : Value), ps[i]? = some x → us[i]? = some u → DV H X x u) → DVs H X ps us
 | [], [], _, _ => .nil
 | [], _ :: _, h, _ => by simp at h
 | _ :: _, [], h, _ => by simp at h
 | p :: ps, u :: us, h, k => .cons (k 0 p u (by simp) (by simp)) (DVs.mk (by simpa using h) fun i x v hx hv => k (i + 1) x v (by simpa using hx) (by simpa using hv))
theorem DVs.up {H H' : St} {X X' : Nat → Prop} (up : ∀ {p : PV} {v : Value}, DV H X p v → DV H' X' p v) {ps : List PV} {us : List Value} (h : DVs H X ps us) : DVs H' X' ps us := by
 induction h with
 | nil => exact .nil
 | cons h1 _ ih => exact .cons (up h1) ih
theorem dv_fresh {H : St} (hs : SatV s H) {cs : List PV} {vs : List Value} (hv : DVs H (Own' s) cs vs) (esz : Nat) : DV (H.alloc vs esz) (Own' s) (.ea cs.length [cs] 0 0) (.pointer (some ⟨H.next, 0, none⟩)) := by
 have := DV.ea (H := H.alloc vs esz) (X := Own' s) (z := cs.length) (xs := [cs]) (i := 0) (o := 0) (b := H.next) (off := 0) (u := fun i j => (vs[j]?).getD undef) (alloc_frozen hs vs esz)
  ⟨fun row hr => by simp at hr; subst hr; rfl, fun i j row x h1 h2 => ?_⟩ (fun i j row x h1 h2 => ?_)
 ·simpa using this
 ·have hi : i = 0 := by have := (List.getElem?_eq_some_iff.1 h1).1; simp at this; exact this
  subst hi
  simp at h1; subst h1
  obtain ⟨u, e, _⟩ := hv.get j x h2
  rw [show 0 + 0 * cs.length + j = j by omega, alloc_cell, e]; rfl
 ·have hi : i = 0 := by have := (List.getElem?_eq_some_iff.1 h1).1; simp at this; exact this
  subst hi
  simp at h1; subst h1
  obtain ⟨u, e, d⟩ := hv.get j x h2
  show DV _ _ x ((vs[j]?).getD undef)
  rw [e]; exact d.keep (keep_alloc hs.wf vs esz)
def PV.cells : PV → List PV
 | .ag cs => cs
 | .sc (.agg c) => c.toList.map .sc
 | p => [p]
theorem cells_dv {H : St} {X : Nat → Prop} {p : PV} {v : Value} (h : DV H X p v) : DVs H X p.cells v.cells.toList := by
 cases h with
 | sc h =>
  cases v with
  | agg c =>
   have := pwk_agg (DV.sc (H := H) (X := X) h)
   cases this with
   | ag h1 h2 => exact .mk h1 h2
  | _ => exact .cons (.sc h) .nil
 | ag h1 h2 => exact .mk h1 h2
 | sn => exact .cons .sn .nil
 | se => exact .cons .se .nil
 | sl h1 h2 h3 h4 => exact .cons (.sl h1 h2 h3 h4) .nil
 | gl h1 h2 h3 h4 h5 h6 h7 h8 h9 h10 => exact .cons (.gl h1 h2 h3 h4 h5 h6 h7 h8 h9 h10) .nil
 | ea h1 h2 h3 => exact .cons (.ea h1 h2 h3) .nil
 | pt => exact .cons .pt .nil
 | ms => exact .cons .ms .nil
 | mp => exact .cons .mp .nil
 | tp h1 h2 => exact .cons (.tp h1 h2) .nil
 | fn h1 h2 h3 h4 => exact .cons (.fn h1 h2 h3 h4) .nil
theorem opV_boxro {o : Oper} {e : TypeId} {x : Operand} {p : PV} (ho : o.op = .box e x) (hx : t.ev x = some p) : OpV P s t o (.ea p.cells.length [p.cells] 0 0) (s.to (s.next + 1)) := fun H T hs ht => by
 obtain ⟨v, e1, hv⟩ := zA4 ht hx
 obtain ⟨h1, h2⟩ := satV_fresh hs v.cells.toList 0
 exact ⟨_, _, by simp only [St.op, ho, e1, both, St.boxOp, St.ptr], h1, dv_fresh hs (cells_dv hv) 0, h2⟩
theorem opV_box {o : Oper} {e : TypeId} {x : Operand} {p : PV} (ho : o.op = .box e x) (hx : t.ev x = some p) : OpV P s t o (.pt s.next 0) (s.new p.cells) := fun H T hs ht => by
 obtain ⟨v, e1, hv⟩ := zA4 ht hx
 obtain ⟨h1, h2⟩ := satV_new hs (cells_dv hv) 0
 exact ⟨.pointer (some ⟨H.next, 0, none⟩), _, by simp only [St.op, ho, e1, both, St.boxOp, St.ptr], h1, by rw [hs.next]; exact .pt, h2⟩
def zDD (P : Program) (e : TypeId) : Option (List Value) :=
 match P.info? e with
 | some i => match i.zero with | some z => bif z.cells.toList.all zCM then some z.cells.toList else none | none => none
 | none => none
theorem zeroOf_alloc {e : TypeId} {l : List Value} (h : zDD P e = some l) (H : St) : H.allocOp P e = some (H.ptr l) ∧ l.all zCM = true := by
 unfold zDD at h
 split at h
 ·rename_i i hi
  split at h
  ·rename_i z hz
   cases ha : z.cells.toList.all zCM with
   | false => rw [ha] at h; cases h
   | true =>
    rw [ha] at h; simp only [cond_true, Option.some.injEq] at h; subst h
    exact ⟨by simp only [St.allocOp, hi, hz, ha, cond_true], ha⟩
  ·cases h
 ·cases h
theorem dvs_scal {H : St} {X : Nat → Prop} : ∀ {l : List Value}, l.all zCM = true → DVs H X (l.map .sc) l
 | [], _ => .nil
 | a :: l, h => by
  simp only [List.all_cons, Bool.and_eq_true] at h
  exact .cons (.sc (scal_of_scal1 h.1)) (dvs_scal h.2)
theorem opV_alloc {o : Oper} {e : TypeId} {l : List Value} (ho : o.op = .alloc e) (hz : zDD P e = some l) : OpV P s t o (.pt s.next 0) (s.new (l.map .sc)) := fun H T hs ht => by
 obtain ⟨e1, hl⟩ := zeroOf_alloc hz H
 obtain ⟨h1, h2⟩ := satV_new hs (dvs_scal (H := H) (X := Own' s) hl) 0
 exact ⟨.pointer (some ⟨H.next, 0, none⟩), _, by simp only [St.op, ho, e1, both, St.ptr], h1, by rw [hs.next]; exact .pt, h2⟩
end Go.AE
namespace Go.AE
variable {P : Program} {ops : Array Oper} {t : VTm} {s : VSt}
theorem zD3 {n : Int} (h : -9223372036854775808 ≤ n ∧ n ≤ 9223372036854775807) : IntKind.wrap .i64 n = n := IntWalk.i64_in n h
theorem wrap_u64_range (n : Int) : 0 ≤ IntKind.wrap .u64 n ∧ IntKind.wrap .u64 n ≤ 18446744073709551615 := by
 simp only [IntKind.wrap, IntKind.bits, IntKind.signed]; simp; omega
section
variable {o : Oper} {ty yt : TypeId} {x y : Operand} {a b : Int}
theorem zA9 (ho : o.op = .binOp .add ty x y yt) (hx : t.ev x = some (.sc (.int .i64 a))) (hy : t.ev y = some (.sc (.int .i64 b))) (h : -9223372036854775808 ≤ a + b ∧ a + b ≤ 9223372036854775807) : OpV P s t o (.sc (.int .i64 (a + b))) s :=
 zCP ho hx hy (show _ = some (Value.int .i64 (a + b)) by rw [← zD3 h, zD3 h, ← zD3 h]; rfl) rfl
theorem zDF (ho : o.op = .binOp .sub ty x y yt) (hx : t.ev x = some (.sc (.int .i64 a))) (hy : t.ev y = some (.sc (.int .i64 b))) (h : -9223372036854775808 ≤ a - b ∧ a - b ≤ 9223372036854775807) : OpV P s t o (.sc (.int .i64 (a - b))) s :=
 zCP ho hx hy (show _ = some (Value.int .i64 (a - b)) by rw [← zD3 h, zD3 h, ← zD3 h]; rfl) rfl
theorem opV_mul (ho : o.op = .binOp .mul ty x y yt) (hx : t.ev x = some (.sc (.int .i64 a))) (hy : t.ev y = some (.sc (.int .i64 b))) (h : -9223372036854775808 ≤ a * b ∧ a * b ≤ 9223372036854775807) : OpV P s t o (.sc (.int .i64 (a * b))) s :=
 zCP ho hx hy (show _ = some (Value.int .i64 (a * b)) by rw [← zD3 h, zD3 h, ← zD3 h]; rfl) rfl
theorem zA5 (ho : o.op = .binOp .lss ty x y yt) (hx : t.ev x = some (.sc (.int .i64 a))) (hy : t.ev y = some (.sc (.int .i64 b))) : OpV P s t o (.sc (.bool (decide (a < b)))) s := zCP ho hx hy rfl rfl
theorem zDQ (ho : o.op = .binOp .leq ty x y yt) (hx : t.ev x = some (.sc (.int .i64 a))) (hy : t.ev y = some (.sc (.int .i64 b))) : OpV P s t o (.sc (.bool (decide (a ≤ b)))) s := zCP ho hx hy rfl rfl
theorem zCD (ho : o.op = .binOp .gtr ty x y yt) (hx : t.ev x = some (.sc (.int .i64 a))) (hy : t.ev y = some (.sc (.int .i64 b))) : OpV P s t o (.sc (.bool (decide (b < a)))) s := zCP ho hx hy rfl rfl
theorem opV_geq (ho : o.op = .binOp .geq ty x y yt) (hx : t.ev x = some (.sc (.int .i64 a))) (hy : t.ev y = some (.sc (.int .i64 b))) : OpV P s t o (.sc (.bool (decide (b ≤ a)))) s := zCP ho hx hy rfl rfl
theorem zBV (ho : o.op = .binOp .eql ty x y yt) (hx : t.ev x = some (.sc (.int .i64 a))) (hy : t.ev y = some (.sc (.int .i64 b))) : OpV P s t o (.sc (.bool (decide (a = b)))) s :=
 zCP ho hx hy (show _ = some (Value.bool (decide (a = b))) by rw [← Bool.beq_eq_decide_eq]; rfl) rfl
theorem zB4 (ho : o.op = .binOp .neq ty x y yt) (hx : t.ev x = some (.sc (.int .i64 a))) (hy : t.ev y = some (.sc (.int .i64 b))) : OpV P s t o (.sc (.bool (decide (a ≠ b)))) s :=
 zCP ho hx hy (show _ = some (Value.bool (decide (a ≠ b))) by
  have : decide (a ≠ b) = (a != b) := by by_cases h : a = b <;> simp [h]
  rw [this]; rfl) rfl
theorem zBQ {c : Bool} (ho : o.op = .unOp .not ty x) (hx : t.ev x = some (.sc (.bool c))) : OpV P s t o (.sc (.bool !c)) s := opV_un ho hx rfl rfl
end
theorem vif {o : Oper} {l : List Oper} {Q : VTm → VSt → Prop} {d : Nat} {c : Prop} [Decidable c] (hg : zCO ops t o = some true) (hop : OpV P s t o (.sc (.bool (decide c))) s) (hd : o.dst = some d) (hn : Nat.blt d t.n = true)
    (h1 : c → VSeq P ops l (t.set d (.sc (.bool true))) s Q) (h2 : ¬ c → VSeq P ops l (t.set d (.sc (.bool false))) s Q) : VSeq P ops (o :: l) t s Q := by
 by_cases hc : c
 ·refine vd hg hop hd hn ?_
  rw [decide_eq_true hc]; exact h1 hc
 ·refine vd hg hop hd hn ?_
  rw [decide_eq_false hc]; exact h2 hc
theorem vifb {o : Oper} {l : List Oper} {Q : VTm → VSt → Prop} {d : Nat} {c : Bool} (hg : zCO ops t o = some true) (hop : OpV P s t o (.sc (.bool c)) s) (hd : o.dst = some d) (hn : Nat.blt d t.n = true)
    (h1 : c = true → VSeq P ops l (t.set d (.sc (.bool true))) s Q) (h2 : c = false → VSeq P ops l (t.set d (.sc (.bool false))) s Q) : VSeq P ops (o :: l) t s Q := by
 refine vd hg hop hd hn ?_
 cases c with
 | true => exact h1 rfl
 | false => exact h2 rfl
theorem mem_read {H : St} (hs : SatV s H) {b : Nat} {cs : List PV} (hm : s.mem b = some cs) : ∀ (n k : Nat), k + n ≤ cs.length → ∃ l, H.read b k n = some l ∧ DVs H (Own' s) ((cs.drop k).take n) l
 | 0, k, _ => ⟨[], rfl, by simpa using DVs.nil⟩
 | n + 1, k, hk => by
  obtain ⟨l, e1, e2⟩ := mem_read hs hm n (k + 1) (by omega)
  have hx : cs[k]? = some cs[k] := by simp
  obtain ⟨u, q1, q2⟩ := mem_cell hs hm hx
  refine ⟨u :: l, by simp only [St.read]; rw [q1]; dsimp only; rw [e1], ?_⟩
  rw [List.drop_eq_getElem_cons (by omega), List.take_succ_cons]
  exact .cons q2 e2
theorem opV_loadPtAgg {o : Oper} {ty : TypeId} {x : Operand} {b k : Nat} {cs : List PV} {d : TypeDesc} {inf : TypeInfo} {n : Nat} (ho : o.op = .load ty x) (hx : t.ev x = some (.pt b k)) (hm : s.mem b = some cs)
    (hu : P.underlying ty = some d) (hd : isAggD d = true) (hin : P.info? ty = some inf) (hsz : inf.size = n) (hk : k + n ≤ cs.length) : OpV P s t o (.ag ((cs.drop k).take n)) s := zBW fun H T hs ht => by
 obtain ⟨v, e1, hv⟩ := zA4 ht hx
 subst hsz
 cases hv with
 | pt =>
  obtain ⟨l, h1, h2⟩ := mem_read hs hm inf.size k hk
  refine ⟨.agg l.toArray, by simp only [St.op, ho, e1, St.loadOp, St.loadVar, hu, hd, hin, cond_true, h1, Option.map_some, keep], .ag (by simp [h2.length]) fun i x u hx hu => ?_⟩
  obtain ⟨u', q1, q2⟩ := h2.get i x hx
  have hu : l[i]? = some u := by simpa using hu
  rw [q1] at hu; cases hu; exact q2
def PV.flat : PV → Bool
 | .ag _ | .tp _ => false
 | .sc v => AE.flat v
 | _ => true
theorem flat_dv {H : St} {X : Nat → Prop} {p : PV} {v : Value} (h : DV H X p v) (hp : p.flat = true) : AE.flat v = true := by
 cases h <;> first | rfl | exact hp | cases hp
def splice (cs : List PV) (k : Nat) : List PV → List PV
 | [] => cs
 | p :: ps => splice (cs.set k p) (k + 1) ps
theorem splice_length : ∀ (ps cs : List PV) (k : Nat), (splice cs k ps).length = cs.length
 | [], _, _ => rfl
 | p :: ps, cs, k => by rw [splice, splice_length]; simp
theorem setMem_setMem (s : VSt) (b : Nat) (c1 c2 : List PV) : (s.setMem b c1).setMem b c2 = s.setMem b c2 := by
 unfold VSt.setMem
 congr 1
 funext x
 dsimp only
 by_cases e : x = b <;> simp [e]
theorem satV_storeL : ∀ {ps : List PV} {vs : List Value} {s : VSt} {H : St} {b k : Nat} {cs : List PV}, SatV s H → s.mem b = some cs → k + ps.length ≤ cs.length → DVs H (Own' s) ps vs → ps.all PV.flat = true →
    ∃ H', H.storeL b k vs = some H' ∧ SatV (s.setMem b (splice cs k ps)) H' ∧ Fr s H (s.setMem b (splice cs k ps)) H'
 | [], _, s, H, b, k, cs, hs, hm, _, .nil, _ => by
  have e : s.setMem b cs = s := by
   unfold VSt.setMem
   cases s with
   | mk n m a g fo =>
    dsimp only at hm ⊢
    congr 1
    funext x
    by_cases hx : x = b
    ·rw [if_pos hx, hx, hm]
    ·rw [if_neg hx]
  refine ⟨H, rfl, ?_, ?_⟩ <;> (show _; rw [splice, e]; first | exact hs | exact .refl _ _)
 | p :: ps, _, s, H, b, k, cs, hs, hm, hk, .cons (v := v) (vs := vs) hv hvs, hf => by
  simp only [List.all_cons, Bool.and_eq_true, List.length_cons] at hf hk
  obtain ⟨H1, e1, s1, f1⟩ := satV_store (k := k) hs hm (by omega) hv (flat_dv hv hf.1)
  have hm1 : (s.setMem b (cs.set k p)).mem b = some (cs.set k p) := by show (if b = b then _ else _) = _; rw [if_pos rfl]
  have ow := own_setMem (s := s) (cs := cs.set k p) hm
  obtain ⟨H2, e2, s2, f2⟩ := satV_storeL (k := k + 1) s1 hm1 (by simp; omega) (hvs.up fun h => by rw [ow]; exact h.keep f1.keep) hf.2
  refine ⟨H2, by simp only [St.storeL, e1]; exact e2, ?_, ?_⟩
  ·rw [setMem_setMem] at s2; exact s2
  ·have := f1.trans hs.next hs.wf s1.next f2
   rw [setMem_setMem] at this; exact this
theorem zDZ {H : St} {X : Nat → Prop} {p : PV} {v : Value} (h : DV H X p v) : v.cells.size = p.cells.length := by
 have := (cells_dv h).length; simp [this]
theorem opV_store {o : Oper} {ty : TypeId} {x y : Operand} {b k : Nat} {cs : List PV} {p : PV} {inf : TypeInfo} (ho : o.op = .store ty x y) (hx : t.ev x = some (.pt b k)) (hy : t.ev y = some p) (hm : s.mem b = some cs)
    (hin : P.info? ty = some inf) (hsz : inf.size = p.cells.length) (hk : k + p.cells.length ≤ cs.length) (hf : p.cells.all PV.flat = true) : OpV P s t o (.sc undef) (s.setMem b (splice cs k p.cells)) := fun H T hs ht => by
 obtain ⟨u, e1, hu⟩ := zA4 ht hx
 obtain ⟨v, e2, hv⟩ := zA4 ht hy
 cases hu with
 | pt =>
  obtain ⟨H', h1, h2, h3⟩ := satV_storeL hs hm hk (cells_dv hv) hf
  have hb : Nat.beq v.cells.size inf.size = true := by rw [zDZ hv, hsz]; exact Nat.beq_refl _
  exact ⟨undef, H', by simp only [St.op, ho, e1, e2, St.storeOp, hin, hb, cond_true, h1, done], h2, .sc zB7, h3⟩
theorem opV_fieldAddrPt {o : Oper} {sty : TypeId} {x : Operand} {f b k : Nat} {fs : Array Go.Field} {fd : Go.Field} {inf : TypeInfo} (ho : o.op = .fieldAddr sty x f) (hx : t.ev x = some (.pt b k))
    (hu : P.underlying sty = some (.struct fs)) (hf : fs[f]? = some fd) (hin : P.info? fd.type = some inf) (hz : inf.size ≠ 0) : OpV P s t o (.pt b (k + fd.offset)) s := zBW fun H T hs ht => by
 obtain ⟨v, e1, hv⟩ := zA4 ht hx
 cases hv with
 | pt =>
  refine ⟨.pointer (some ⟨b, k + fd.offset, none⟩), ?_, .pt⟩
  have hb : Nat.beq inf.size 0 = false := by cases h : inf.size with | zero => exact absurd h hz | succ n => rfl
  simp only [St.op, ho, e1, fieldAddrVal, hu, hf, hin, hb, cond_false, keep]
theorem opV_indexAddrPt {o : Oper} {ty e : TypeId} {x ix : Operand} {k : IntKind} {b off i n : Nat} {inf : TypeInfo} (ho : o.op = .indexAddr ty x ix) (hx : t.ev x = some (.pt b off)) (hix : t.ev ix = some (.sc (.int k (.ofNat i))))
    (hu : P.underlying ty = some (.array n e)) (hin : P.info? e = some inf) (hi : i < n) : OpV P s t o (.pt b (off + i * inf.size)) s := zBW fun H T hs ht => by
 obtain ⟨v, e1, hv⟩ := zA4 ht hx
 obtain ⟨u, e2, hu2⟩ := zA4 ht hix
 obtain ⟨rfl, _⟩ := hu2.sc_inv
 cases hv with
 | pt =>
  refine ⟨.pointer (some ⟨b, off + i * inf.size, none⟩), ?_, .pt⟩
  have hb : Nat.blt i n = true := Nat.ble_eq_true_of_le hi
  simp only [St.op, ho, e1, e2, zD2, idxVal, hu, hin, hb, cond_true, keep]
theorem opV_indexAddrMs {o : Oper} {ty e : TypeId} {x ix : Operand} {k : IntKind} {b off i n c : Nat} {inf : TypeInfo} (ho : o.op = .indexAddr ty x ix) (hx : t.ev x = some (.ms b off n c)) (hix : t.ev ix = some (.sc (.int k (.ofNat i))))
    (hu : P.underlying ty = some (.slice e)) (hin : P.info? e = some inf) (hi : i < n) : OpV P s t o (.pt b (off + i * inf.size)) s := zBW fun H T hs ht => by
 obtain ⟨v, e1, hv⟩ := zA4 ht hx
 obtain ⟨u, e2, hu2⟩ := zA4 ht hix
 obtain ⟨rfl, _⟩ := hu2.sc_inv
 cases hv with
 | ms =>
  refine ⟨.pointer (some ⟨b, off + i * inf.size, none⟩), ?_, .pt⟩
  have hb : Nat.blt i n = true := Nat.ble_eq_true_of_le hi
  simp only [St.op, ho, e1, e2, zD2, idxVal, hu, hin, hb, cond_true, keep]
theorem opV_lenMs {o : Oper} {c : Call} {ty e : TypeId} {x : Operand} {b off n cp : Nat} (ho : o.op = .call c) (hb : c.callee = .builtin .len) (ha : c.args = #[x]) (hty : c.argTypes = #[ty])
    (hu : P.underlying ty = some (.slice e)) (hx : t.ev x = some (.ms b off n cp)) : OpV P s t o (.sc (.int .i64 (n : Nat))) s := zBW fun H T hs ht => by
 obtain ⟨v, e1, hv⟩ := zA4 ht hx
 cases hv with
 | ms => exact ⟨.int .i64 (n : Nat), by simp only [St.op, ho, ha, Tm.evs, e1, hb, St.builtinOp, hty, St.lenOp, hu, Option.map_some, both], .sc rfl⟩
theorem opV_lenStr {o : Oper} {c : Call} {ty : TypeId} {x : Operand} {b : ByteArray} (ho : o.op = .call c) (hb : c.callee = .builtin .len) (ha : c.args = #[x]) (hty : c.argTypes = #[ty])
    (hu : P.underlying ty = some .string) (hx : t.ev x = some (.sc (.string b))) : OpV P s t o (.sc (.int .i64 (b.size : Nat))) s := zBW fun H T hs ht => by
 obtain ⟨v, e1, hv⟩ := zA4 ht hx
 obtain ⟨rfl, _⟩ := hv.sc_inv
 exact ⟨.int .i64 (b.size : Nat), by simp only [St.op, ho, ha, Tm.evs, e1, hb, St.builtinOp, hty, St.lenOp, hu, Option.map_some, both], .sc rfl⟩
theorem zBR {o : Oper} {x : Operand} {b k : Nat} (ho : o.op = .nilCheck x) (hx : t.ev x = some (.pt b k)) : OpV P s t o (.pt b k) s := zBW fun H T hs ht => by
 obtain ⟨v, e1, hv⟩ := zA4 ht hx
 cases hv with
 | pt => exact ⟨_, by simp only [St.op, ho, e1, nilCheckVal, keep], .pt⟩
end Go.AE
namespace Go.AE
variable {P : Program} {ops : Array Oper} {t : VTm} {s : VSt}
def famOf : PV → Option Nat
 | .gl f _ _ _ => some f
 | _ => none
inductive Gr (s : VSt) (z : Nat) : PV → List (List PV) → Prop
 | nil : Gr s z (.sc (.slice none 0 0)) []
 | gl {f e : Nat} {xs : List (List PV)} : s.grow f = some e → f < s.next → z ≠ 0 → Gr s z (.gl f e z xs) xs
theorem Gr.els {z : Nat} {p : PV} {xs : List (List PV)} (h : Gr s z p xs) : ∃ z', p.els = some (z', xs) ∧ (xs = [] ∨ z' = z) := by
 cases h with
 | nil => exact ⟨0, rfl, .inl rfl⟩
 | gl => exact ⟨z, rfl, .inr rfl⟩
theorem Gr.wk {z : Nat} {p : PV} {xs : List (List PV)} (h : Gr s z p xs) : PWk p (.sl z xs) := by
 cases h with
 | nil => exact pwk_nil
 | gl => exact pwk_gl
def appOk (P : Program) (t0 t1 : TypeId) (z bytes : Nat) : Bool :=
 match P.underlying t0, P.underlying t1 with
 | some (.slice e), some d1 => isRowD d1 && match P.info? e with
  | some i => Nat.beq i.size z && Nat.beq i.bytes bytes && !Nat.beq z 0 && match i.zero with | some v => Nat.beq v.cells.size z | none => false
  | none => false
 | _, _ => false
theorem appOk_spec {t0 t1 : TypeId} {z bytes : Nat} (h : appOk P t0 t1 z bytes = true) : ∃ e d1 i v, P.underlying t0 = some (.slice e) ∧ P.underlying t1 = some d1 ∧ isRowD d1 = true ∧ P.info? e = some i ∧ i.size = z ∧ i.bytes = bytes ∧ z ≠ 0 ∧ i.zero = some v ∧ v.cells.size = z := by
 unfold appOk at h
 split at h
 ·rename_i e d1 h0 h1
  rw [Bool.and_eq_true] at h
  obtain ⟨ha, h⟩ := h
  split at h
  ·rename_i i hi
   simp only [Bool.and_eq_true] at h
   obtain ⟨⟨⟨q1, q2⟩, q3⟩, q4⟩ := h
   split at q4
   ·rename_i v hv
    refine ⟨e, d1, i, v, h0, h1, ha, hi, Nat.eq_of_beq_eq_true q1, Nat.eq_of_beq_eq_true q2, ?_, hv, Nat.eq_of_beq_eq_true q4⟩
    rintro rfl; simp at q3
   ·cases q4
  ·cases h
 ·cases h
theorem flat_all {H : St} {X : Nat → Prop} {z : Nat} {ys : List (List PV)} {m : List Value} (h : Flat H X z ys m) (hf : ∀ row ∈ ys, ∀ x ∈ row, x.flat = true) : m.all flat = true := by
 rw [List.all_eq_true]
 intro v hv
 obtain ⟨k, hk⟩ := List.mem_iff_getElem?.1 hv
 have hlt := (List.getElem?_eq_some_iff.1 hk).1
 rw [h.len] at hlt
 have hz : 0 < z := by rcases Nat.eq_zero_or_pos z with e | e; · subst e; omega
                       ·exact e
 have hi : k / z < ys.length := Nat.div_lt_of_lt_mul (by rw [Nat.mul_comm]; exact hlt)
 have hrow : ys[k / z]? = some ys[k / z] := by simp [hi]
 have hsz := h.size ys[k / z] (List.getElem_mem _)
 have hj : k % z < ys[k / z].length := by rw [hsz]; exact Nat.mod_lt _ hz
 have hx : (ys[k / z])[k % z]? = some (ys[k / z])[k % z] := by simp [hj]
 obtain ⟨u, e1, d⟩ := h.get _ _ _ _ hrow hx
 rw [show k / z * z + k % z = k from by rw [Nat.mul_comm]; exact Nat.div_add_mod k z, hk] at e1
 cases e1
 exact flat_dv d (hf _ (List.getElem_mem _) _ (List.getElem_mem _))
theorem satV_version {H : St} (hs : SatV s H) {f e z : Nat} {xs ys : List (List PV)} {new : List Value} (hz : z ≠ 0) (hg : s.grow f = some e) {v : Value} (hv : DV H (Own' s) (.gl f e z xs) v) (hy : Flat H (Own' s) z ys new) :
    ∃ b off H', v = .slice (some ⟨b, off, none⟩) xs.length (unk + z) ∧ H.version b off (xs.length * z) z new = some H' ∧ SatV (s.grown f (e + new.length)) H' ∧ Fr s H (s.grown f (e + new.length)) H' ∧
     DV H' (Own' s) (.gl f (e + new.length) z (xs ++ ys)) (.slice (some ⟨H.next, off, none⟩) (xs.length + ys.length) (unk + z)) := by
 cases hv with
 | gl hn h1 h2 h3 h4 h5 h6 h7 h8 h9 =>
  rename_i b off n u c g fm
  subst hn
  obtain ⟨ho, fm', q1, q2⟩ := hs.grow f e hg
  rw [h2] at q1; cases q1
  obtain ⟨l, hl, hfl⟩ := flat_of_cells h8 h9
  obtain ⟨TT, hver, hTT⟩ := version_ok (new := new) h1 h2 h3 (by rw [q2, h5]) h6 h7 hl
  have hw' := (abs_version hver hs.wf).wf
  have keep : Keep (Own' s) H { next := H.next + 1, obs := H.obs.set H.next (.rw (TT.setList (off + xs.length * z) new) f g), fams := H.fams.set f ⟨g, off + xs.length * z + new.length, z⟩, low := cond (Nat.ble H.low f) H.low f } := by
   refine ⟨fun b' c' h => ?_, fun b' c' f' g' fm2 k1 k2 k3 k4 => ?_⟩
   ·have := (hs.wf.obs b' _ h).1
    dsimp only; rw [Tr.get_set_ne _ _ (by omega)]; exact h
   ·have := (hs.wf.obs b' _ k1).1
    dsimp only
    refine ⟨by rw [Tr.get_set_ne _ _ (by omega)]; exact k1, ?_⟩
    by_cases ef : f' = f
    ·subst ef
     rw [h2] at k2; cases k2
     exact ⟨_, Tr.get_set_same _ _ _, by show g = g'; rw [← h3]; exact k3, h6.symm⟩
    ·exact ⟨fm2, by rw [Tr.get_set_ne _ _ ef]; exact k2, k3, rfl⟩
  have up : ∀ {p : PV} {v : Value}, DV H (Own' s) p v → DV _ (Own' s) p v := fun h => h.keep keep
  have hlt := hs.wf.fams f _ h2
  refine ⟨b, off, _, rfl, hver, ⟨by show s.next + 1 = H.next + 1; rw [hs.next], hw', fun b' c' hb => ?_, fun b' es hb => ?_, fun f' e' he => ?_, hs.inj, fun b' c' hb => ?_⟩, ⟨keep, Nat.le_succ _, fun f _ ho => ho⟩, ?_⟩
  ·obtain ⟨c2, g2, fm2, r1, r2, r3, r4⟩ := hs.mem b' c' hb
   have hbn : b' ≠ H.next := by have := (hs.wf.obs b' _ r1).1; omega
   have hbf : s.fo b' ≠ f := fun e => ho ⟨b', _, hb, e⟩
   exact ⟨c2, g2, fm2, by dsimp only; rw [Tr.get_set_ne _ _ hbn]; exact r1, by show (H.fams.set f _).get (s.fo b') = _; rw [Tr.get_set_ne _ _ hbf]; exact r2, r3, fun i x hx => let ⟨u, a, b⟩ := r4 i x hx; ⟨u, a, up b⟩⟩
  ·obtain ⟨es', r1, r2, r3⟩ := hs.maps b' es hb
   have := (hs.wf.obs b' _ r1).1
   exact ⟨es', by dsimp only; rw [Tr.get_set_ne _ _ (by omega)]; exact r1, r2, fun i e he => let ⟨e', a, b, c⟩ := r3 i e he; ⟨e', a, b, up c⟩⟩
  ·have he : (if f' = f then some (e + new.length) else s.grow f') = some e' := he
   by_cases ef : f' = f
   ·rw [if_pos ef] at he
    simp only [Option.some.injEq] at he; subst he; subst ef
    exact ⟨ho, _, Tr.get_set_same _ _ _, by show off + xs.length * z + new.length = _; rw [h5]⟩
   ·rw [if_neg ef] at he
    obtain ⟨r1, fm2, r2, r3⟩ := hs.grow f' e' he
    exact ⟨r1, fm2, by dsimp only; rw [Tr.get_set_ne _ _ ef]; exact r2, r3⟩
  ·obtain ⟨fm2, q1, q2⟩ := hs.ext b' c' hb
   have hbf : s.fo b' ≠ f := fun e => ho ⟨b', _, hb, e⟩
   exact ⟨fm2, by show (H.fams.set f _).get (s.fo b') = _; rw [Tr.get_set_ne _ _ hbf]; exact q1, q2⟩
  ·have hflat := (hfl.append hy).fr up
   have cell : ∀ k, St.cell? { next := H.next + 1, obs := H.obs.set H.next (.rw (TT.setList (off + xs.length * z) new) f g), fams := H.fams.set f ⟨g, off + xs.length * z + new.length, z⟩, low := cond (Nat.ble H.low f) H.low f } H.next k = (TT.setList (off + xs.length * z) new).get k := fun k => by
    unfold St.cell?
    dsimp only
    rw [Tr.get_set_same]
    dsimp only
    rw [Tr.get_set_same]
    dsimp only
    rw [show Nat.beq g g = true from Nat.beq_refl g]; rfl
   obtain ⟨u', c1, c2⟩ := cells_of_flat (b := H.next) (off := off) hflat fun k hk => by
    rw [cell, Tr.get_setList]
    rw [List.length_append, hfl.len] at hk
    by_cases hlo : k < xs.length * z
    ·rw [if_neg (by omega), hTT k hlo, List.getElem?_append_left (by rw [hfl.len]; exact hlo)]
     obtain ⟨s1, s2⟩ := St.read_spec hl
     have hg : l[k]? = some l[k] := List.getElem?_eq_getElem (by rw [hfl.len]; exact hlo)
     rw [s2 k _ hg, hg]
    ·rw [if_pos (by omega), List.getElem?_append_right (by rw [hfl.len]; omega), hfl.len]
     congr 1; omega
   refine .gl (by simp) (Tr.get_set_same _ _ _) (Tr.get_set_same _ _ _) rfl h4 ?_ rfl hz c1 c2
   rw [h5, hy.len, Nat.add_mul]; omega
structure Grew (s : VSt) (z : Nat) (p : PV) (xs : List (List PV)) (p' : PV) (s' : VSt) : Prop where
 gr : Gr s' z p' xs
 mem : s'.mem = s.mem
 maps : s'.maps = s.maps
 next : s.next ≤ s'.next
 grow : ∀ f, f < s.next → famOf p ≠ some f → s'.grow f = s.grow f
 fam : famOf p' = famOf p ∨ ∀ f, famOf p' = some f → s.next ≤ f
 fo : s'.fz = s.fz
theorem zBF {o : Oper} {c : Call} {t0 t1 : TypeId} {x y : Operand} {z z' bytes : Nat} {p q : PV} {xs ys : List (List PV)} (hw : zCO ops t o = some true) (ho : o.op = .call c) (hb : c.callee = .builtin .append) (ha : c.args = #[x, y]) (hty : c.argTypes = #[t0, t1])
    (hok : appOk P t0 t1 z bytes = true) (hx : t.ev x = some p) (hy : t.ev y = some q) (hg : Gr s z p xs) (hq : q.els = some (z', ys)) (hz' : ys = [] ∨ z' = z) (hfl : ∀ row ∈ ys, ∀ x ∈ row, x.flat = true)
    (hsz : (xs.length + ys.length) * bytes ≤ 140737488355328 ∧ xs.length + ys.length ≤ 140737488355328) : VStep P ops o t s (Grew s z p (xs ++ ys)) := by
 obtain ⟨e, d1, i, zv, k0, k1, k2, k3, rfl, rfl, k6, k7, k8⟩ := appOk_spec hok
 have flat0 : ∀ {H : St}, Flat H (Own' s) z' ys [] → ys = [] ∨ z' = 0 := fun h => by
  have := h.len
  simp only [List.length_nil] at this
  rcases Nat.mul_eq_zero.1 this.symm with h | h
  ·exact .inl (List.length_eq_zero_iff.1 h)
  ·exact .inr h
 have hbz : Nat.beq i.size 0 = false := by cases h : i.size with | zero => exact absurd h k6 | succ n => rfl
 have hbc : Nat.beq zv.cells.size i.size = true := by rw [k8]; exact Nat.beq_refl _
 have nc : ∀ {H : St} {v : Value}, DV H (Own' s) q v → ∃ l, H.newCells i.size v = some (ys.length, l) ∧ Flat H (Own' s) i.size ys l ∧ l.all flat = true := fun {H v} hv => by
  obtain ⟨l, e1, e2⟩ := els_cells hq hv (hz'.imp (fun h => h) fun h => (by rw [h]; exact k6)) i.size (hz'.imp (fun h => h) fun h => h.symm)
  rcases hz' with h | h
  ·subst h
   have : l = [] := List.length_eq_zero_iff.1 (by rw [e2.len]; simp)
   subst this
   exact ⟨[], e1, ⟨fun _ h => (by cases h), (by simp), fun i j row x h => (by simp at h)⟩, rfl⟩
  ·subst h
   exact ⟨l, e1, e2, flat_all e2 hfl⟩
 by_cases hys : ys = []
 ·
  have hop : OpV P s t o p s := zBW fun H T hs ht => by
   obtain ⟨v, e1, hv⟩ := zA4 ht hx
   obtain ⟨u, e2, hu⟩ := zA4 ht hy
   obtain ⟨l, n1, n2, n3⟩ := nc hu
   subst hys
   refine ⟨v, ?_, hv⟩
   have hcond : (Nat.beq zv.cells.size i.size && !Nat.beq i.size 0 && l.all flat) = true := by rw [hbc, hbz, n3]; rfl
   have happ : H.app P t0 t1 v u = some (v, H) := by
    cases hg with
    | nil =>
     obtain ⟨rfl, _⟩ := hv.sc_inv
     simp only [St.app, k0, k1, k2, cond_true, k3, k7, n1, hcond]
     rfl
    | gl hgr hlt hz =>
     cases hv with
     | gl hn h1 h2 h3 h4 h5 h6 h7 h8 h9 =>
      have e1' : Nat.beq (unk + i.size) emp = false := by
       rw [beq_iff]; simp; unfold unk emp; omega
      have e2' : Nat.ble unk (unk + i.size) = true := Nat.ble_eq_true_of_le (by omega)
      simp only [St.app, k0, k1, k2, cond_true, k3, k7, n1, hcond, e1', e2', cond_false, Nat.beq_refl, List.length_nil]
   simp only [St.op, ho, ha, Tm.evs, e1, e2, hb, St.builtinOp, hty, happ, both]
  subst hys
  refine (zCE hw hop).mono fun p' s' ⟨e1, e2⟩ => ?_
  subst e1; subst e2
  rw [List.append_nil]
  exact ⟨hg, rfl, rfl, Nat.le_refl _, fun _ _ _ => rfl, .inl rfl, rfl⟩
 ·have hn0 : Nat.beq ys.length 0 = false := by
    cases ys with
    | nil => exact absurd rfl hys
    | cons a l => rfl
  have hsize : Nat.ble ((xs.length + ys.length) * i.bytes) 140737488355328 && Nat.ble (xs.length + ys.length) 140737488355328 := by
   rw [Nat.ble_eq_true_of_le hsz.1, Nat.ble_eq_true_of_le hsz.2]; rfl
  cases hg with
  | nil =>
   have hop : OpV P s t o (.gl s.next (ys.length * i.size) i.size ys) (s.grown s.next (ys.length * i.size)) := fun H T hs ht => by
    obtain ⟨v, e1, hv⟩ := zA4 ht hx
    obtain ⟨u, e2, hu⟩ := zA4 ht hy
    obtain ⟨l, n1, n2, n3⟩ := nc hu
    obtain ⟨rfl, _⟩ := hv.sc_inv
    obtain ⟨r1, r2, r3⟩ := satV_row hs k6 n2
    have hcond : (Nat.beq zv.cells.size i.size && !Nat.beq i.size 0 && l.all flat) = true := by rw [hbc, hbz, n3]; rfl
    simp only [List.length_nil, Nat.zero_add] at hsize
    have happ : H.app P t0 t1 (.slice none 0 0) u = some (.slice (some ⟨H.next, 0, none⟩) ys.length (unk + i.size), H.alloc l i.size) := by
     simp only [St.app, k0, k1, k2, cond_true, k3, k7, n1, hcond, hn0, hsize, cond_false]
     rfl
    exact ⟨_, _, by simp only [St.op, ho, ha, Tm.evs, e1, e2, hb, St.builtinOp, hty, happ, both], r1, r3, r2⟩
   refine (zCE hw hop).mono fun p' s' ⟨e1, e2⟩ => ?_
   subst e1; subst e2
   refine ⟨.gl ?_ (Nat.lt_succ_self _) k6, rfl, rfl, Nat.le_succ _, fun f hf _ => ?_, .inr fun f hf => ?_, rfl⟩
   ·show (if s.next = s.next then _ else _) = _; rw [if_pos rfl]
   ·show (if f = s.next then _ else _) = _; rw [if_neg (by omega)]
   ·simp only [famOf, Option.some.injEq] at hf; omega
  | @gl f ex _ hgr hlt hz =>
   have hop : OpV P s t o (.gl f (ex + ys.length * i.size) i.size (xs ++ ys)) (s.grown f (ex + ys.length * i.size)) := fun H T hs ht => by
    obtain ⟨v, e1, hv⟩ := zA4 ht hx
    obtain ⟨u, e2, hu⟩ := zA4 ht hy
    obtain ⟨l, n1, n2, n3⟩ := nc hu
    obtain ⟨b, off, H', rfl, r1, r2, r3, r4⟩ := satV_version hs k6 hgr hv n2
    rw [n2.len] at r2 r3 r4
    have hcond : (Nat.beq zv.cells.size i.size && !Nat.beq i.size 0 && l.all flat) = true := by rw [hbc, hbz, n3]; rfl
    have e1' : Nat.beq (unk + i.size) emp = false := by
     rw [beq_iff]; simp; unfold unk emp; omega
    have e2' : Nat.ble unk (unk + i.size) = true := Nat.ble_eq_true_of_le (by omega)
    have happ : H.app P t0 t1 (.slice (some ⟨b, off, none⟩) xs.length (unk + i.size)) u = some (.slice (some ⟨H.next, off, none⟩) (xs.length + ys.length) (unk + i.size), H') := by
     simp only [St.app, k0, k1, k2, cond_true, k3, k7, n1, hcond, e1', e2', cond_false, Nat.beq_refl, hn0, hsize, r1, Option.map_some]
    exact ⟨_, _, by simp only [St.op, ho, ha, Tm.evs, e1, e2, hb, St.builtinOp, hty, happ, both], r2, r4, r3⟩
   refine (zCE hw hop).mono fun p' s' ⟨e1, e2⟩ => ?_
   subst e1; subst e2
   refine ⟨.gl ?_ (Nat.lt_succ_of_lt hlt) k6, rfl, rfl, Nat.le_succ _, fun f' hf hne => ?_, .inl rfl, rfl⟩
   ·show (if f = f then _ else _) = _; rw [if_pos rfl]
   ·show (if f' = f then _ else _) = _
    rw [if_neg (fun e => hne (by rw [e]; rfl))]
end Go.AE
namespace Go.AE
variable {P : Program} {ops : Array Oper} {t : VTm} {s : VSt} {c x y : Code}
structure VSub (s2 s' : VSt) : Prop where
 next : s2.next = s'.next
 mem : ∀ b cs, s2.mem b = some cs → s'.mem b = some cs
 maps : ∀ b es, s2.maps b = some es → s'.maps b = some es
 grow : ∀ f e, s2.grow f = some e → s'.grow f = some e
 fo : ∀ b cs, s2.mem b = some cs → s2.fz b = s'.fz b
theorem VSub.refl (s : VSt) : VSub s s := ⟨rfl, fun _ _ h => h, fun _ _ h => h, fun _ _ h => h, fun _ _ _ => rfl⟩
theorem VSub.own {s2 s' : VSt} (h : VSub s2 s') {f : Nat} (k : Own' s2 f) : Own' s' f := let ⟨b, c, e, q⟩ := k; ⟨b, c, h.mem _ _ e, by unfold VSt.fo at q ⊢; rw [← h.fo _ _ e]; exact q⟩
theorem DV.less {H : St} (hw : WF H) {X X' : Nat → Prop} {p : PV} {v : Value} (h : DV H X p v) (hx : ∀ f, X' f → X f) : DV H X' p v := h.fr hw (.refl _ _) fun f _ k => hx f k
theorem satV_sub {s2 s' : VSt} {H : St} (hs : SatV s' H) (h : VSub s2 s') : SatV s2 H where
 next := h.next.trans hs.next
 wf := hs.wf
 mem := fun b cs hb => by
  obtain ⟨c, g, fm, h1, h2, h3, h4⟩ := hs.mem b cs (h.mem _ _ hb)
  rw [show s2.fo b = s'.fo b from congrArg Prod.fst (h.fo _ _ hb)]
  exact ⟨c, g, fm, h1, h2, h3, fun i x hx => let ⟨u, a, b⟩ := h4 i x hx; ⟨u, a, b.less hs.wf fun f k => h.own k⟩⟩
 maps := fun b es hb => by
  obtain ⟨es', h1, h2, h3⟩ := hs.maps b es (h.maps _ _ hb)
  exact ⟨es', h1, h2, fun i e he => let ⟨e', a, b, c⟩ := h3 i e he; ⟨e', a, b, c.less hs.wf fun f k => h.own k⟩⟩
 grow := fun f e he => by
  obtain ⟨h1, h2⟩ := hs.grow f e (h.grow _ _ he)
  exact ⟨fun k => h1 (h.own k), h2⟩
 inj := fun b b' c c' hb hb' hf => hs.inj b b' c c' (h.mem _ _ hb) (h.mem _ _ hb') (by rw [← show s2.fo b = s'.fo b from congrArg Prod.fst (h.fo _ _ hb), ← show s2.fo b' = s'.fo b' from congrArg Prod.fst (h.fo _ _ hb')]; exact hf)
 ext := fun b c hb => by
  have := hs.ext b c (h.mem _ _ hb)
  rw [show s2.fo b = s'.fo b from congrArg Prod.fst (h.fo _ _ hb), show s2.ez b = s'.ez b from congrArg Prod.snd (h.fo _ _ hb)]; exact this
theorem fr_sub {s s2 s' : VSt} {H0 H : St} (hf : Fr s H0 s' H) (h : VSub s2 s') : Fr s H0 s2 H := ⟨hf.keep, by rw [h.next]; exact hf.next, fun f hlt k => hf.own f hlt (h.own k)⟩
structure Fresh0 (s : VSt) : Prop where
 mem : ∀ b cs, s.mem b = some cs → b < s.next
 maps : ∀ b es, s.maps b = some es → b < s.next
 grow : ∀ f e, s.grow f = some e → f < s.next
theorem SatV.fresh0 {H : St} (hs : SatV s H) : Fresh0 s where
 mem := fun b cs h => by obtain ⟨_, _, _, h1, _⟩ := hs.mem b cs h; have := (hs.wf.obs _ _ h1).1; have := hs.next; omega
 maps := fun b es h => by obtain ⟨_, h1, _⟩ := hs.maps b es h; have := (hs.wf.obs _ _ h1).1; have := hs.next; omega
 grow := fun f e h => by obtain ⟨_, fm, h1, _⟩ := hs.grow f e h; have := hs.wf.fams _ _ h1; have := hs.next; omega
structure Ext0 (s s' : VSt) : Prop where
 next : s.next ≤ s'.next
 mem : ∀ b, b < s.next → s'.mem b = s.mem b
 maps : ∀ b, b < s.next → s'.maps b = s.maps b
 grow : ∀ f, f < s.next → s'.grow f = s.grow f
 fo : ∀ b, b < s.next → s'.fz b = s.fz b
theorem Ext0.refl (s : VSt) : Ext0 s s := ⟨Nat.le_refl _, fun _ _ => rfl, fun _ _ => rfl, fun _ _ => rfl, fun _ _ => rfl⟩
theorem Ext0.to {s s1 : VSt} {n : Nat} (h : Ext0 s s1) (hn : s1.next ≤ n) : Ext0 s (s1.to n) := ⟨Nat.le_trans h.next hn, h.mem, h.maps, h.grow, h.fo⟩
theorem Ext0.to1 {s s1 : VSt} (h : Ext0 s s1) : Ext0 s (s1.to (s1.next + 1)) := h.to (Nat.le_succ _)
theorem Ext0.new {s s1 : VSt} {cs : List PV} (h : Ext0 s s1) : Ext0 s (s1.new cs) :=
 ⟨Nat.le_succ_of_le h.next, fun b hb => by show (if b = s1.next then _ else _) = _; rw [if_neg (by have := h.next; omega)]; exact h.mem b hb, h.maps, h.grow, fun b hb => by show (if b = s1.next then _ else _) = _; rw [if_neg (by have := h.next; omega)]; exact h.fo b hb⟩
theorem Ext0.setMem {s s1 : VSt} {b : Nat} {cs : List PV} (h : Ext0 s s1) (hb : s.next ≤ b) : Ext0 s (s1.setMem b cs) :=
 ⟨h.next, fun b' hb' => by show (if b' = b then _ else _) = _; rw [if_neg (by omega)]; exact h.mem b' hb', h.maps, h.grow, h.fo⟩
theorem Ext0.grew {s s1 s2 : VSt} {z : Nat} {p p' : PV} {xs : List (List PV)} (h : Ext0 s s1) (g : Grew s1 z p xs p' s2) (hf : ∀ f, famOf p = some f → s.next ≤ f) : Ext0 s s2 :=
 ⟨Nat.le_trans h.next g.next, fun b hb => by rw [g.mem]; exact h.mem b hb, fun b hb => by rw [g.maps]; exact h.maps b hb, fun f hlt => by
  rw [g.grow f (Nat.lt_of_lt_of_le hlt h.next) fun e => by have := hf f e; omega]; exact h.grow f hlt, fun b hb => by rw [g.fo]; exact h.fo b hb⟩
theorem Ext0.trans {s s1 s2 : VSt} (h : Ext0 s s1) (k : Ext0 s1 s2) : Ext0 s s2 :=
 ⟨Nat.le_trans h.next k.next, fun b hb => (k.mem b (Nat.lt_of_lt_of_le hb h.next)).trans (h.mem b hb), fun b hb => (k.maps b (Nat.lt_of_lt_of_le hb h.next)).trans (h.maps b hb), fun b hb => (k.grow b (Nat.lt_of_lt_of_le hb h.next)).trans (h.grow b hb), fun b hb => (k.fo b (Nat.lt_of_lt_of_le hb h.next)).trans (h.fo b hb)⟩
def FamGe (n : Nat) (p : PV) : Prop := ∀ f, famOf p = some f → n ≤ f
theorem FamGe.grew {n : Nat} {s s' : VSt} {z : Nat} {p p' : PV} {xs : List (List PV)} (h : FamGe n p) (g : Grew s z p xs p' s') (hn : n ≤ s.next) : FamGe n p' := fun f hf => by
 rcases g.fam with e | e
 ·exact h f (by rw [← e]; exact hf)
 ·exact Nat.le_trans hn (e f hf)
theorem FamGe.nil {n : Nat} : FamGe n (.sc (.slice none 0 0)) := fun f hf => (by cases hf)
theorem VSub.ext0 {s s' : VSt} (h : Ext0 s s') (f : Fresh0 s) : VSub (s.to s'.next) s' :=
 ⟨rfl, fun b cs hb => by rw [h.mem b (f.mem b cs hb)]; exact hb, fun b es hb => by rw [h.maps b (f.maps b es hb)]; exact hb, fun g e he => by rw [h.grow g (f.grow g e he)]; exact he, fun b cs hb => (h.fo b (f.mem b cs hb)).symm⟩
inductive ResV (P : Program) (t : VTm) (s : VSt) : List ResultVar → List PV → Prop
 | nil : ResV P t s [] []
 | tmp {k : Nat} {p : PV} {rs : List ResultVar} {ps : List PV} : t.m k = p → ResV P t s rs ps → ResV P t s (.tmp k :: rs) (p :: ps)
 | cell {a b k : Nat} {ty : TypeId} {cs : List PV} {p : PV} {d : TypeDesc} {rs : List ResultVar} {ps : List PV} : t.m a = .pt b k → s.mem b = some cs → cs[k]? = some p → P.underlying ty = some d → isAggD d = false →
     ResV P t s rs ps → ResV P t s (.cell a ty :: rs) (p :: ps)
 | cellAgg {a b k n : Nat} {ty : TypeId} {cs : List PV} {d : TypeDesc} {inf : TypeInfo} {rs : List ResultVar} {ps : List PV} : t.m a = .pt b k → s.mem b = some cs → P.underlying ty = some d → isAggD d = true → P.info? ty = some inf → inf.size = n →
     k + n ≤ cs.length → ResV P t s rs ps → ResV P t s (.cell a ty :: rs) (.ag ((cs.drop k).take n) :: ps)
theorem resV_sound {H : St} {T : Tm} (hs : SatV s H) (ht : TmV H (Own' s) t T) {rs : List ResultVar} {ps : List PV} (h : ResV P t s rs ps) : ∃ vs, zC1 P T H rs = some vs ∧ DVs H (Own' s) ps vs := by
 induction h with
 | nil => exact ⟨[], rfl, .nil⟩
 | @tmp k p rs ps e _ ih =>
  obtain ⟨vs, h1, h2⟩ := ih
  have := ht.2 k
  rw [e] at this
  exact ⟨_ :: vs, by simp only [zC1, evResult, h1], .cons this h2⟩
 | @cell a b k ty cs p d rs ps e hm hk hu hd _ ih =>
  obtain ⟨vs, h1, h2⟩ := ih
  have hv := ht.2 a
  rw [e] at hv
  obtain ⟨u, q1, q2⟩ := mem_cell hs hm hk
  generalize hg : (T.m.get a).getD undef = w at hv
  cases hv with
  | pt => exact ⟨u :: vs, by simp only [zC1, evResult, hg, St.loadOp, St.loadVar, hu, hd, cond_false, q1, h1], .cons q2 h2⟩
 | @cellAgg a b k n ty cs d inf rs ps e hm hu hd hin hsz hk _ ih =>
  obtain ⟨vs, h1, h2⟩ := ih
  subst hsz
  have hv := ht.2 a
  rw [e] at hv
  obtain ⟨l, q1, q2⟩ := mem_read hs hm inf.size k hk
  generalize hg : (T.m.get a).getD undef = w at hv
  cases hv with
  | pt =>
   refine ⟨.agg l.toArray :: vs, by simp only [zC1, evResult, hg, St.loadOp, St.loadVar, hu, hd, hin, cond_true, q1, Option.map_some, h1], .cons (.ag (by simp [q2.length]) fun i x u hx hu => ?_) h2⟩
   obtain ⟨u', r1, r2⟩ := q2.get i x hx
   have hu : l[i]? = some u := by simpa using hu
   rw [r1] at hu; cases hu; exact r2
def tupV : List PV → PV
 | [p] => p
 | ps => .tp ps
theorem tupV_sound {H : St} {X : Nat → Prop} {ps : List PV} {vs : List Value} (h : DVs H X ps vs) : DV H X (tupV ps) (tupled vs) := by
 cases h with
 | nil => exact .tp rfl fun i x u h => (by simp at h)
 | cons h1 h2 =>
  cases h2 with
  | nil => exact h1
  | cons h2 h3 =>
   have hh := DVs.cons h1 (.cons h2 h3)
   refine .tp (by have := hh.length; simpa using this) fun i x u hx hu => ?_
   obtain ⟨u', r1, r2⟩ := hh.get i x hx
   rw [List.toList_toArray, r1] at hu; cases hu; exact r2
def VTm.nil (n : Nat) : VTm := ⟨n, fun _ => .sc undef⟩
def VTm.args (t : VTm) : Nat → List PV → VTm
 | _, [] => t
 | i, p :: ps => VTm.args (t.set i p) (i + 1) ps
theorem args_m : ∀ (ps : List PV) (t : VTm) (i k : Nat), (t.args i ps).m k = if i ≤ k ∧ k < i + ps.length then (ps[k - i]?).getD (.sc undef) else t.m k
 | [], t, i, k => by simp only [VTm.args, List.length_nil]; rw [if_neg (by omega)]
 | p :: ps, t, i, k => by
  simp only [VTm.args]
  rw [args_m ps, VTm.set_m]
  simp only [List.length_cons]
  by_cases h : i + 1 ≤ k ∧ k < i + 1 + ps.length
  ·rw [if_pos h, if_pos (by omega)]
   obtain ⟨j, hj⟩ : ∃ j, k - i = j + 1 := ⟨k - i - 1, by omega⟩
   rw [hj, List.getElem?_cons_succ, show k - (i + 1) = j by omega]
  ·rw [if_neg h]
   by_cases e : k = i
   ·subst e; rw [if_pos rfl, if_pos (by omega)]; simp
   ·rw [if_neg e, if_neg (by omega)]
theorem args_n : ∀ (ps : List PV) (t : VTm) (i : Nat), (t.args i ps).n = t.n
 | [], _, _ => rfl
 | p :: ps, t, i => args_n ps (t.set i p) (i + 1)
theorem tmv_start {H : St} {X : Nat → Prop} {ps : List PV} {vs : List Value} (h : DVs H X ps vs) (n : Nat) : TmV H X ((VTm.nil n).args 0 ps) ⟨n, Tr.setList .nil 0 vs⟩ := by
 refine ⟨args_n _ _ _, fun k => ?_⟩
 rw [args_m]
 show DV H X _ (((Tr.setList .nil 0 vs).get k).getD undef)
 rw [get_new]
 by_cases hk : 0 ≤ k ∧ k < 0 + ps.length
 ·rw [if_pos hk, Nat.sub_zero]
  have hx : ps[k]? = some (ps[k]'(by omega)) := by simp [show k < ps.length by omega]
  obtain ⟨u, e, d⟩ := h.get k _ hx
  rw [hx, e]; exact d
 ·rw [if_neg hk, List.getElem?_eq_none (by rw [← h.length]; omega)]
  exact .sc zB7
def postV (P : Program) (fn : Func) (Q : PV → VSt → Prop) : Ex → VTm → VSt → Prop
 | .normal, t, s | .ret, t, s => ∃ ps s2 r, ResV P t s fn.results.toList ps ∧ VSub s2 s ∧ PWk (tupV ps) r ∧ Q r s2
 | _, _, _ => False
theorem zDT {f : FuncId} {fn : Func} {args : List PV} {Q : PV → VSt → Prop} {n : Nat} (hf : P.funcs[f]? = some fn) (hc : fn.body = some c) (hn : args.length + (fn.ntmps - args.length) = n)
    (h : Fresh0 s → VCode P c ((VTm.nil n).args 0 args) s (postV P fn Q)) : VCall P f args s Q := fun H vs hs hv => by
 refine callT hf hc ?_
 have hl : vs.length = args.length := hv.length.symm
 rw [hl, hn]
 refine (h hs.fresh0 hs (tmv_start hv n)).mono fun ex T' H' ⟨t', s', q, hs', ht', hf'⟩ => ?_
 have fin : (∃ ps s2 r, ResV P t' s' fn.results.toList ps ∧ VSub s2 s' ∧ PWk (tupV ps) r ∧ Q r s2) → ∃ vs, zC1 P T' H' fn.results.toList = some vs ∧ ∃ p s', Q p s' ∧ SatV s' H' ∧ DV H' (Own' s') p (tupled vs) ∧ Fr s H s' H' := by
  rintro ⟨ps, s2, r, h1, h2, h3, h4⟩
  obtain ⟨vs, e1, e2⟩ := resV_sound hs' ht' h1
  exact ⟨vs, e1, r, s2, h4, satV_sub hs' h2, (h3 (tupV_sound e2)).less hs'.wf fun f k => h2.own k, fr_sub hf' h2⟩
 cases ex with
 | normal => exact fin q
 | ret => exact fin q
 | exit id => exact q.elim
def postP (P : Program) (fn : Func) (s : VSt) (r : PV) : Ex → VTm → VSt → Prop
 | .normal, t, s' | .ret, t, s' => ∃ ps, ResV P t s' fn.results.toList ps ∧ PWk (tupV ps) r ∧ Ext0 s s'
 | _, _, _ => False
theorem zBA {f : FuncId} {fn : Func} {args : List PV} {r : PV} {n : Nat} (hf : P.funcs[f]? = some fn) (hc : fn.body = some c) (hn : args.length + (fn.ntmps - args.length) = n)
    (h : ∀ s, Fresh0 s → VCode P c ((VTm.nil n).args 0 args) s (postP P fn s r)) : zB1 P f args r := fun s => by
 refine zDT hf hc hn fun hfr => (h s hfr).mono fun ex t' s' q => ?_
 cases ex with
 | normal => obtain ⟨ps, h1, h2, h3⟩ := q; exact ⟨ps, _, r, h1, .ext0 h3 hfr, h2, rfl, s'.next, h3.next, rfl⟩
 | ret => obtain ⟨ps, h1, h2, h3⟩ := q; exact ⟨ps, _, r, h1, .ext0 h3 hfr, h2, rfl, s'.next, h3.next, rfl⟩
 | exit id => exact q.elim
theorem vcode_cond {Q : Ex → VTm → VSt → Prop} {o : Operand} {b : Bool} (ho : t.ev o = some (.sc (.bool b))) (h : VCode P (if b then x else y) t s Q) : VCode P (.cond o x y) t s Q := fun H T hs ht => by
 obtain ⟨v, e, hv⟩ := zA4 ht ho
 obtain ⟨rfl, _⟩ := hv.sc_inv
 exact codeT_cond e (h hs ht)
theorem zAS {Q : Ex → VTm → VSt → Prop} {o : Operand} (ho : t.ev o = some (.sc (.bool true))) (h : VCode P x t s Q) : VCode P (.cond o x y) t s Q := vcode_cond ho (by rw [if_pos rfl]; exact h)
theorem zAQ {Q : Ex → VTm → VSt → Prop} {o : Operand} (ho : t.ev o = some (.sc (.bool false))) (h : VCode P y t s Q) : VCode P (.cond o x y) t s Q := vcode_cond ho (by rw [if_neg (by simp)]; exact h)
theorem zAI {Q : Ex → VTm → VSt → Prop} {id : Nat} (h : Q (.exit id) t s) : vthen P y Q (.exit id) t s := h
theorem zAG {Q : Ex → VTm → VSt → Prop} (h : Q .ret t s) : vthen P y Q .ret t s := h
theorem zAC {Q : Ex → VTm → VSt → Prop} (h : VCode P y t s Q) : vthen P y Q .normal t s := h
theorem zA2 {Q : Ex → VTm → VSt → Prop} {id : Nat} (h : Q .normal t s) : vblock id Q (.exit id) t s := by show (if id = id then _ else _); rw [if_pos rfl]; exact h
theorem vblock_miss {Q : Ex → VTm → VSt → Prop} {id id' : Nat} (hne : Nat.beq id' id = false) (h : Q (.exit id') t s) : vblock id Q (.exit id') t s := by
 show (if id' = id then _ else _)
 rw [if_neg (fun e => by rw [e, Nat.beq_refl] at hne; cases hne)]; exact h
theorem zAT {Q : Ex → VTm → VSt → Prop} {id : Nat} (h : Q .ret t s) : vblock id Q .ret t s := h
theorem zA3 {Q : Ex → VTm → VSt → Prop} {id : Nat} (h : Q .normal t s) : vblock id Q .normal t s := h
def nin : List Nat → Nat → Bool
 | [], _ => false
 | a :: l, k => bif Nat.beq k a then true else nin l k
def VTm.hav (t : VTm) (ws : List Nat) (u : Nat → PV) : VTm := ⟨t.n, fun k => bif nin ws k then u k else t.m k⟩
def VTm.puts (t : VTm) : List (Nat × PV) → VTm
 | [] => t
 | (k, p) :: l => VTm.puts (t.set k p) l
def Holds (t : VTm) : List (Nat × PV) → Prop
 | [] => True
 | (k, p) :: l => t.m k = p ∧ Holds t l
def Agr (ws : List Nat) (t t' : VTm) : Prop := t'.n = t.n ∧ ∀ k, nin ws k = false → t'.m k = t.m k
theorem lkH {k : Nat} {ws : List Nat} {u : Nat → PV} {q : PV} (h : nin ws k = false) (g : t.m k = q) : (t.hav ws u).m k = q := by
 show (bif nin ws k then _ else _) = _
 rw [h]; exact g
theorem Agr.refl (ws : List Nat) (t : VTm) : Agr ws t t := ⟨rfl, fun _ _ => rfl⟩
theorem Agr.hav (ws : List Nat) (t : VTm) (u : Nat → PV) : Agr ws t (t.hav ws u) := ⟨rfl, fun k hk => by show (bif nin ws k then _ else _) = _; rw [hk]; rfl⟩
theorem Agr.set {ws : List Nat} {t t' : VTm} {d : Nat} {p : PV} (hd : nin ws d = true) (h : Agr ws t t') : Agr ws t (t'.set d p) := ⟨h.1, fun k hk => by
 rw [VTm.set_m, if_neg (fun e => by rw [e, hd] at hk; cases hk)]; exact h.2 k hk⟩
theorem Agr.hav' {ws ws' : List Nat} {t t' : VTm} {u : Nat → PV} (hd : ws'.all (nin ws) = true) (h : Agr ws t t') : Agr ws t (t'.hav ws' u) := ⟨h.1, fun k hk => by
 show (bif nin ws' k then _ else _) = _
 have : nin ws' k = false := by
  cases hk' : nin ws' k with
  | false => rfl
  | true =>
   have mem : ∀ (l : List Nat), nin l k = true → k ∈ l := by
    intro l
    induction l with
    | nil => intro h; cases h
    | cons a l ih =>
     intro h
     simp only [nin] at h
     cases hb : Nat.beq k a with
     | true => rw [Nat.eq_of_beq_eq_true hb]; exact List.mem_cons_self
     | false => rw [hb] at h; exact List.mem_cons_of_mem _ (ih h)
   have := List.all_eq_true.1 hd k (mem _ hk')
   rw [hk] at this; cases this
 rw [this]; exact h.2 k hk⟩
theorem puts_eq : ∀ (l : List (Nat × PV)) (t t1 : VTm), t.n = t1.n → Holds t1 l → (∀ k, (∀ kp ∈ l, kp.1 ≠ k) → t.m k = t1.m k) → t.puts l = t1
 | [], t, t1, hn, _, h => by
  cases t; cases t1
  simp only [VTm.puts] at hn ⊢
  subst hn
  congr 1
  funext k
  exact h k fun kp hkp => by cases hkp
 | (k0, p) :: l, t, t1, hn, ⟨h1, h2⟩, h => by
  simp only [VTm.puts]
  refine puts_eq l _ t1 hn h2 fun k hk => ?_
  rw [VTm.set_m]
  by_cases e : k = k0
  ·rw [if_pos e, e]; exact h1.symm
  ·rw [if_neg e]
   refine h k fun kp hkp => ?_
   rcases List.mem_cons.1 hkp with rfl | hkp
   ·exact fun h => e h.symm
   ·exact hk kp hkp
def vround (Qn : VTm → VSt → Prop) (Q : Ex → VTm → VSt → Prop) : Ex → VTm → VSt → Prop
 | .normal, t, s => Qn t s
 | ex, t, s => Q ex t s
theorem zA6 {Qn : VTm → VSt → Prop} {Q : Ex → VTm → VSt → Prop} (h : Qn t s) : vround Qn Q .normal t s := h
theorem zAY {Qn : VTm → VSt → Prop} {Q : Ex → VTm → VSt → Prop} {id : Nat} (h : Q (.exit id) t s) : vround Qn Q (.exit id) t s := h
theorem zBD {Qn : VTm → VSt → Prop} {Q : Ex → VTm → VSt → Prop} (h : Q .ret t s) : vround Qn Q .ret t s := h
theorem zA0 {σ : Type} {Q : Ex → VTm → VSt → Prop} (ws : List Nat) (vals : σ → List (Nat × PV)) (st : σ → VSt) (I : σ → Prop) (μ : σ → Nat) (x0 : σ) (h0 : I x0) (hs : s = st x0) (hv : Holds t (vals x0))
    (round : ∀ x u, I x → VCode P c ((t.hav ws u).puts (vals x)) (st x) (vround (fun t' s' => ∃ x', μ x' < μ x ∧ I x' ∧ s' = st x' ∧ Holds t' (vals x') ∧ Agr ws t t') Q)) : VCode P (.loop c) t s Q := by
 refine vcode_loop (fun n t1 s1 => ∃ x, n = μ x ∧ I x ∧ s1 = st x ∧ Holds t1 (vals x) ∧ Agr ws t t1) (μ x0) ⟨x0, rfl, h0, hs, hv, .refl _ _⟩ ?_
 rintro n t1 s1 ⟨x, rfl, hI, rfl, hh, ha⟩
 have e : (t.hav ws t1.m).puts (vals x) = t1 := puts_eq _ _ _ ha.1.symm hh fun k _ => by
  show (bif nin ws k then _ else _) = _
  cases hk : nin ws k with
  | true => rfl
  | false => exact (ha.2 k hk).symm
 rw [← e]
 refine (round x t1.m hI).mono fun ex t' s' q => ?_
 cases ex with
 | normal => obtain ⟨x', h1, h2, h3, h4, h5⟩ := q; exact ⟨μ x', h1, x', rfl, h2, h3, h4, h5⟩
 | exit id => exact q
 | ret => exact q
theorem vstep_pure {o : Oper} {f : FuncId} {ps : List PV} {r : PV} (hg : zCO ops t o = some true) (hop : OpE P s t o f ps) (hc : zB1 P f ps r) : VStep P ops o t s fun p s' => p = r ∧ ∃ n, s.next ≤ n ∧ s' = s.to n :=
 zB2 hg hop (hc s)
theorem vcp {o : Oper} {l : List Oper} {Q : VTm → VSt → Prop} {d : Nat} {f : FuncId} {ps : List PV} {r : PV} (hg : zCO ops t o = some true) (hop : OpE P s t o f ps) (hc : zB1 P f ps r) (hd : o.dst = some d) (hn : Nat.blt d t.n = true)
    (h : ∀ n, s.next ≤ n → VSeq P ops l (t.set d r) (s.to n) Q) : VSeq P ops (o :: l) t s Q :=
 vc (vstep_pure hg hop hc) hd hn fun p s1 ⟨e, n, hn, e2⟩ => by subst e; subst e2; exact h n hn
theorem vcpb {o : Oper} {l : List Oper} {Q : VTm → VSt → Prop} {d : Nat} {f : FuncId} {ps : List PV} {b : Bool} (hg : zCO ops t o = some true) (hop : OpE P s t o f ps) (hc : zB1 P f ps (.sc (.bool b))) (hd : o.dst = some d) (hn : Nat.blt d t.n = true)
    (h1 : ∀ n, s.next ≤ n → b = true → VSeq P ops l (t.set d (.sc (.bool true))) (s.to n) Q) (h2 : ∀ n, s.next ≤ n → b = false → VSeq P ops l (t.set d (.sc (.bool false))) (s.to n) Q) : VSeq P ops (o :: l) t s Q :=
 vcp hg hop hc hd hn fun n hn => by
  cases b with
  | true => exact h1 n hn rfl
  | false => exact h2 n hn rfl
theorem zB3 {o : Oper} {f : FuncId} {ps : List PV} {r : PV} (h : ∀ n, s.next ≤ n → zCO ops (t.only (o.looksAt ops)) o = some true ∧ OpE P (s.to n) (t.only (o.looksAt ops)) o f ps) (hc : zB1 P f ps r) : Stab P ops o t s r := fun n hn =>
 (vstep_pure (h n hn).1 (h n hn).2 hc).mono fun p s' ⟨e, m, h1, h2⟩ => ⟨e, m, h1, h2⟩
theorem zAH {o : Oper} {p : PV} (hg : zCO ops (t.only (o.looksAt ops)) o = some true) (h : ∀ n, s.next ≤ n → OpV P (s.to n) (t.only (o.looksAt ops)) o p (s.to n)) : Stab P ops o t s p := stab_is fun n hn => zCE hg (h n hn)
theorem zAV {o : Oper} (hg : zCO ops (t.only (o.looksAt ops)) o = some false) : Stab P ops o t s (.sc undef) := stab_is fun n hn => vstep_not hg
end Go.AE
namespace Go.AE
variable {P : Program} {ops : Array Oper} {t : VTm} {s : VSt}
def putCells (cells : List PV) (off : Nat) : List PV → List PV
 | [] => cells
 | p :: ps => putCells (cells.set off p) (off + 1) ps
def pfill (place : Nat → Option (Nat × Nat)) : List PV → List (Nat × PV) → Option (List PV)
 | cells, [] => some cells
 | cells, (i, p) :: rest =>
  match place i with
  | some (off, size) => bif Nat.beq p.cells.length size && Nat.ble (off + size) cells.length then pfill place (putCells cells off p.cells) rest else none
  | none => none
theorem DVs.set {H : St} {X : Nat → Prop} {l : List PV} {l' : List Value} (h : DVs H X l l') (i : Nat) {p : PV} {v : Value} (hv : DV H X p v) : DVs H X (l.set i p) (l'.set i v) := by
 refine DVs.mk (by simp [h.length]) fun j a a' ha ha' => ?_
 rw [List.getElem?_set] at ha ha'
 by_cases e : i = j
 ·subst e
  rw [if_pos rfl] at ha ha'
  have := h.length
  by_cases hl : i < l.length
  ·rw [if_pos hl] at ha; rw [if_pos (by omega)] at ha'; cases ha; cases ha'; exact hv
  ·rw [if_neg hl] at ha; cases ha
 ·rw [if_neg e] at ha ha'
  obtain ⟨a'', h1, h2⟩ := h.get j a ha
  rw [h1] at ha'; cases ha'; exact h2
theorem fill_dvs {H : St} {X : Nat → Prop} {ps : List PV} {c : Array Value} (hv : DVs H X ps c.toList) (off : Nat) : ∀ {cells : List PV} {cells' : Array Value}, DVs H X cells cells'.toList →
    DVs H X (putCells cells off ps) (c.zipIdx.foldl (fun cs (c, j) => cs.setIfInBounds (off + j) c) cells').toList := by
 intro cells cells' hc
 rw [← Array.foldl_toList, Array.toList_zipIdx]
 have key : ∀ (l : List Value) (ps : List PV) (k : Nat) (cells : List PV) (cells' : Array Value), DVs H X ps l → DVs H X cells cells'.toList → DVs H X (putCells cells (off + k) ps) ((l.zipIdx k).foldl (fun cs (c, j) => cs.setIfInBounds (off + j) c) cells').toList := by
  intro l
  induction l with
  | nil => intro ps k cells cells' h hc; cases h; exact hc
  | cons a l ih =>
   intro ps k cells cells' h hc
   cases h with
   | cons h1 h2 =>
    simp only [List.zipIdx_cons, List.foldl_cons, putCells]
    refine ih _ (k + 1) _ _ h2 ?_
    rw [Array.toList_setIfInBounds]
    exact hc.set _ h1
 exact key c.toList ps 0 cells cells' hv hc
theorem pfill_sound {H : St} {X : Nat → Prop} (place : Nat → Option (Nat × Nat)) : ∀ {ps : List (Nat × PV)} {vs : List (Nat × Value)} {cells : List PV} {cells' : Array Value} {r : List PV}, ps.map (·.1) = vs.map (·.1) → DVs H X (ps.map (·.2)) (vs.map (·.2)) → DVs H X cells cells'.toList → pfill place cells ps = some r →
    ∃ r', Instr.fill place cells' vs = some r' ∧ DVs H X r r'.toList
 | [], [], cells, cells', r, _, _, hc, h => by simp only [pfill, Option.some.injEq] at h; subst h; exact ⟨_, rfl, hc⟩
 | [], _ :: _, _, _, _, h, _, _, _ => by simp at h
 | _ :: _, [], _, _, _, h, _, _, _ => by simp at h
 | (i, p) :: ps, (i', v) :: vs, cells, cells', r, h1, h2, hc, h => by
  simp only [List.map_cons, List.cons.injEq] at h1
  obtain ⟨rfl, h1⟩ := h1
  simp only [List.map_cons] at h2
  cases h2 with
  | cons hv hvs =>
   simp only [pfill] at h
   cases hpl : place i with
   | none => rw [hpl] at h; cases h
   | some os =>
    obtain ⟨off, size⟩ := os
    rw [hpl] at h
    dsimp only at h
    cases hcond : Nat.beq p.cells.length size && Nat.ble (off + size) cells.length with
    | false => rw [hcond] at h; cases h
    | true =>
     rw [hcond] at h
     simp only [cond_true] at h
     simp only [Bool.and_eq_true] at hcond
     have e1 := Nat.eq_of_beq_eq_true hcond.1
     have e2 := Nat.le_of_ble_eq_true hcond.2
     have hsz := zDZ hv
     have hcl := hc.length
     simp only [Array.length_toList] at hcl
     have hno : ¬ (v.cells.size ≠ size ∨ off + v.cells.size > cells'.size) := by omega
     have hno' : ¬ ((decide (v.cells.size ≠ size) || decide (off + v.cells.size > cells'.size)) = true) := by simpa using hno
     obtain ⟨r', q1, q2⟩ := pfill_sound place h1 hvs (fill_dvs (cells_dv hv) off hc) h
     refine ⟨r', ?_, q2⟩
     simp only [Instr.fill, hpl]
     rw [if_neg hno']
     exact q1
def placesOf (P : Program) (t : TypeId) : Option (List (Nat × Nat)) :=
 match P.underlying t with
 | some (.struct fields) => (prun P (fields.mapM fun f => do pure (f.offset, ← sizeOf f.type))).map (·.toList)
 | _ => none
def VTm.evParts (t : VTm) : List (Nat × Operand) → Option (List (Nat × PV))
 | [] => some []
 | x :: xs => match t.ev x.2 with | some v => (match t.evParts xs with | some vs => some ((x.1, v) :: vs) | none => none) | none => none
theorem evp0 : t.evParts [] = some [] := rfl
theorem evp1 {k : Nat} {x : Operand} {xs : List (Nat × Operand)} {p : PV} {ps : List (Nat × PV)} (h : t.ev x = some p) (g : t.evParts xs = some ps) : t.evParts ((k, x) :: xs) = some ((k, p) :: ps) := by simp only [VTm.evParts, h, g]
theorem vevParts_sound {H : St} {X : Nat → Prop} {T : Tm} (h : TmV H X t T) : ∀ {xs : List (Nat × Operand)} {ps : List (Nat × PV)}, t.evParts xs = some ps → ∃ vs, T.evParts xs = some vs ∧ ps.map (·.1) = vs.map (·.1) ∧ DVs H X (ps.map (·.2)) (vs.map (·.2))
 | [], ps, e => by simp only [VTm.evParts, Option.some.injEq] at e; subst e; exact ⟨[], rfl, rfl, .nil⟩
 | x :: xs, ps, e => by
  simp only [VTm.evParts] at e
  split at e
  ·rename_i p h1
   split at e
   ·rename_i ps' h2
    simp only [Option.some.injEq] at e; subst e
    obtain ⟨v, e1, hv⟩ := zA4 h h1
    obtain ⟨vs, e2, e3, e4⟩ := vevParts_sound h h2
    exact ⟨(x.1, v) :: vs, by simp only [Tm.evParts, e1, e2], by simp [e3], .cons hv e4⟩
   ·cases e
  ·cases e
theorem opV_build {o : Oper} {ty : TypeId} {parts : Array (Nat × Operand)} {ps : List (Nat × PV)} {zc : List Value} {pl : List (Nat × Nat)} {r : List PV} (ho : o.op = .build ty parts) (hp : t.evParts parts.toList = some ps)
    (hz : zDD P ty = some zc) (hpl : placesOf P ty = some pl) (hr : pfill (pl[·]?) (zc.map .sc) ps = some r) : OpV P s t o (.ag r) s := zBW fun H T hs ht => by
 obtain ⟨vs, e1, e2, e3⟩ := vevParts_sound ht hp
 unfold zDD at hz
 split at hz
 ·rename_i i hi
  split at hz
  ·rename_i z hzz
   cases ha : z.cells.toList.all zCM with
   | false => rw [ha] at hz; cases hz
   | true =>
    rw [ha] at hz; simp only [cond_true, Option.some.injEq] at hz; subst hz
    unfold placesOf at hpl
    split at hpl
    ·rename_i fields hu
     simp only [Option.map_eq_some_iff] at hpl
     obtain ⟨arr, harr, rfl⟩ := hpl
     have hr' : pfill (arr[·]?) (z.cells.toList.map .sc) ps = some r := by
      have : (fun k : Nat => arr.toList[k]?) = (fun k : Nat => arr[k]?) := by funext k; simp
      rw [← this]; exact hr
     obtain ⟨r', q1, q2⟩ := pfill_sound (H := H) (X := Own' s) (arr[·]?) e2 e3 (dvs_scal ha) hr'
     refine ⟨.agg r', ?_, .ag q2.length fun i x u hx hu => ?_⟩
     ·simp only [St.op, ho, e1, buildVal, hi, hzz, ha, cond_true, buildCells, hu, harr, q1, Option.map_some, keep]
     ·obtain ⟨u', k1, k2⟩ := q2.get i x hx
      rw [hu] at k1; cases k1; exact k2
    ·cases hpl
  ·cases hz
 ·cases hz
theorem opV_buildSlice1 {o : Oper} {ty e : TypeId} {x : Operand} {p : PV} {inf : TypeInfo} {zc : List Value} (ho : o.op = .buildSlice ty 1 #[(0, x)]) (hx : t.ev x = some p) (hu : P.underlying ty = some (.slice e)) (hin : P.info? e = some inf)
    (hz : zDD P e = some zc) (hzs : zc.length = inf.size) (hsz : p.cells.length = inf.size) (hpos : 0 < inf.size) (hlt : inf.size ≤ 16777216) : OpV P s t o (.sl inf.size [p.cells]) (s.to (s.next + 1)) := fun H T hs ht => by
 obtain ⟨v, e1, hv⟩ := zA4 ht hx
 have hvs := zDZ hv
 unfold zDD at hz
 rw [hin] at hz
 dsimp only at hz
 cases hzz : inf.zero with
 | none => rw [hzz] at hz; cases hz
 | some z =>
  rw [hzz] at hz
  dsimp only at hz
  cases ha : z.cells.toList.all zCM with
  | false => rw [ha] at hz; cases hz
  | true =>
   rw [ha] at hz; simp only [cond_true, Option.some.injEq] at hz; subst hz
   simp only [Array.length_toList] at hzs
   have hcells : (Array.range (1 * inf.size)).map (fun k => z.cells[k % z.cells.size]!) = z.cells := by
    rw [Nat.one_mul]
    apply Array.ext
    ·simp [hzs]
    ·intro i h1 h2
     simp only [Array.getElem_map, Array.getElem_range]
     rw [Nat.mod_eq_of_lt h2]
     simp [h2]
   have hfull : v.cells.zipIdx.foldl (fun cs (c, j) => cs.setIfInBounds (0 + j) c) z.cells = v.cells := by
    have key : ∀ (l : List Value) (k : Nat) (pre : List Value) (cs : Array Value), cs.toList.take k = pre → pre.length = k → cs.size = k + l.length → ((l.zipIdx k).foldl (fun cs (c, j) => cs.setIfInBounds (0 + j) c) cs).toList = pre ++ l := by
     intro l
     induction l with
     | nil =>
      intro k pre cs h1 h2 h3
      simp only [List.zipIdx_nil, List.foldl_nil, List.append_nil]
      rw [← h1, List.take_of_length_le (by simp; simp at h3; omega)]
     | cons a l ih =>
      intro k pre cs h1 h2 h3
      simp only [List.length_cons] at h3
      simp only [List.zipIdx_cons, List.foldl_cons]
      rw [ih (k + 1) (pre ++ [a]) _ ?_ (by simp [h2]) (by simp; omega)]
      ·simp
      ·rw [Array.toList_setIfInBounds, Nat.zero_add]
       have hk : k < cs.toList.length := by simp; omega
       rw [List.take_succ_eq_append_getElem (by simpa using hk)]
       simp [List.take_set_of_le, h1]
    have := key v.cells.toList 0 [] z.cells (by simp) rfl (by simp; omega)
    rw [← Array.foldl_toList, Array.toList_zipIdx]
    exact Array.ext' (by rw [this]; rfl)
   have hno : ¬ ((decide (v.cells.size ≠ 1 * inf.size) || decide (0 * inf.size + v.cells.size > z.cells.size)) = true) := by simp; omega
   have hc2 : (Nat.ble (1 * inf.size) 16777216 && Nat.ble 1 16777216 && z.cells.toList.all zCM) = true := by
    rw [ha, Nat.ble_eq_true_of_le (by omega)]; rfl
   have hne : ¬ (1 * inf.size = 0) := by omega
   obtain ⟨s1, s2⟩ := satV_fresh hs v.cells.toList 0
   refine ⟨.slice (some ⟨H.next, 0, none⟩) 1 1, H.alloc v.cells.toList 0, ?_, s1, ?_, s2⟩
   ·have hfill : Instr.fill (fun k => some (k * inf.size, inf.size)) z.cells [(0, v)] = some v.cells := by
      simp only [Instr.fill]
      rw [if_neg (by simp; omega)]
      simp only [Nat.zero_mul]
      rw [hfull]
    have hz' : (if 1 * inf.size = 0 then (#[] : Array Value) else z.cells) = z.cells := if_neg hne
    have hcells' : (Array.range (1 * inf.size)).map ((if 1 * inf.size = 0 then (#[] : Array Value) else z.cells)[· % (if 1 * inf.size = 0 then (#[] : Array Value) else z.cells).size]!) = z.cells := by
     rw [hz']; exact hcells
    simp only [St.op, ho, Tm.evParts, e1, St.buildSliceOp, hu, hin, hzz, hcells', hc2, cond_true, hfill, Option.map_some, both]
   ·have hd := cells_dv hv
    refine .sl (u := fun i j => (v.cells.toList[j]?).getD undef) ⟨rfl, .inr ⟨Nat.le_refl _, by omega⟩⟩ (alloc_frozen hs _ 0) ⟨fun row hr => ?_, fun i j row x h1 h2 => ?_⟩ fun i j row x h1 h2 => ?_
    ·simp at hr; subst hr; exact hsz
    ·have hi : i = 0 := by have := (List.getElem?_eq_some_iff.1 h1).1; simp at this; exact this
     subst hi
     simp at h1; subst h1
     obtain ⟨u, e, _⟩ := hd.get j x h2
     rw [show 0 + 0 * inf.size + j = j by omega, alloc_cell, e]; rfl
    ·have hi : i = 0 := by have := (List.getElem?_eq_some_iff.1 h1).1; simp at this; exact this
     subst hi
     simp at h1; subst h1
     obtain ⟨u, e, d⟩ := hd.get j x h2
     show DV _ _ x ((v.cells.toList[j]?).getD undef)
     rw [e]; exact d.keep (keep_alloc hs.wf _ 0)
theorem els_slice {H : St} {X : Nat → Prop} {p : PV} {z : Nat} {xs : List (List PV)} (h : p.els = some (z, xs)) {v : Value} (hv : DV H X p v) {l m : Nat} (hl : l < m) (hm : m ≤ xs.length) :
    ∃ a n c b off c', v = .slice (some a) n c ∧ sliceSl z a n c l m = some (.slice (some ⟨b, off, none⟩) (m - l) c') ∧ n = xs.length ∧ DV H X (.sl z ((xs.drop l).take (m - l))) (.slice (some ⟨b, off, none⟩) (m - l) c') := by
 have main : ∀ {b off n c : Nat} {u : Nat → Nat → Value}, n = xs.length ∧ CapOk z n c → Frozen H X b → Cells z xs (H.cell? b) off u → (∀ (i j : Nat) (row : List PV) (x : PV), xs[i]? = some row → row[j]? = some x → DV H X x (u i j)) →
     ∃ c', sliceSl z ⟨b, off, none⟩ n c l m = some (.slice (some ⟨b, off + l * z, none⟩) (m - l) c') ∧ DV H X (.sl z ((xs.drop l).take (m - l))) (.slice (some ⟨b, off + l * z, none⟩) (m - l) c') := by
  intro b off n c u ⟨hn, hcap⟩ h1 h2 h3
  have hd : ∀ c', CapOk z (m - l) c' → DV H X (.sl z ((xs.drop l).take (m - l))) (.slice (some ⟨b, off + l * z, none⟩) (m - l) c') := fun c' hc' => by
   have hget : ∀ (i : Nat) (row : List PV), ((xs.drop l).take (m - l))[i]? = some row → xs[l + i]? = some row := fun i row h => by
    have hi := (List.getElem?_eq_some_iff.1 h).1
    simp only [List.length_take, List.length_drop] at hi
    rw [List.getElem?_take_of_lt (by omega), List.getElem?_drop] at h; exact h
   refine .sl (u := fun i j => u (l + i) j) ⟨by simp; omega, hc'⟩ h1 ⟨fun row hr => ?_, fun i j row x k1 k2 => ?_⟩ fun i j row x k1 k2 => h3 _ _ _ _ (hget i row k1) k2
   ·exact h2.size row (List.mem_of_mem_drop (List.mem_of_mem_take hr))
   ·have := h2.get _ _ _ _ (hget i row k1) k2
    rw [← this]
    congr 1
    rw [Nat.add_mul]; omega
  rcases hcap with hc | ⟨hc1, hc2⟩
  ·refine ⟨c, ?_, hd c (.inl hc)⟩
   have e1 : Nat.beq c (unk + z) = true := by rw [hc]; exact Nat.beq_refl _
   have e2 : (Nat.ble l m && Nat.ble m n) = true := by rw [Nat.ble_eq_true_of_le (by omega), Nat.ble_eq_true_of_le (by omega)]; rfl
   have e3 : Nat.beq l n = false := by rw [beq_iff]; simp; omega
   simp only [sliceSl, e1, e2, e3, cond_true, cond_false]
  ·refine ⟨c - l, ?_, hd (c - l) (.inr ⟨by omega, by omega⟩)⟩
   have e1 : Nat.beq c (unk + z) = false := by rw [beq_iff]; simp; unfold unk; omega
   have e2 : (Nat.ble l m && Nat.ble m c && Nat.ble c 281474976710656) = true := by rw [Nat.ble_eq_true_of_le (by omega), Nat.ble_eq_true_of_le (by omega), Nat.ble_eq_true_of_le hc2]; rfl
   have e3 : Nat.beq c l = false := by rw [beq_iff]; simp; omega
   simp only [sliceSl, e1, e2, cond_true, cond_false, place, e3]
 unfold PV.els at h
 split at h
 ·simp only [Option.some.injEq, Prod.mk.injEq] at h
  obtain ⟨rfl, rfl⟩ := h
  cases hv with
  | sn => simp at hm; omega
  | se => simp at hm; omega
  | sl hn h1 h2 h3 =>
   obtain ⟨c', r1, r2⟩ := main hn h1 h2 h3
   exact ⟨_, _, _, _, _, c', rfl, r1, hn.1, r2⟩
 ·simp only [Option.some.injEq, Prod.mk.injEq] at h
  obtain ⟨rfl, rfl⟩ := h
  cases hv with
  | gl hn h1 h2 h3 h4 h5 h6 h7 h8 h9 =>
   obtain ⟨c', r1, r2⟩ := main ⟨hn, .inl rfl⟩ (.inr ⟨_, _, _, _, h1, h2, h3, h4⟩) h8 h9
   exact ⟨_, _, _, _, _, c', rfl, r1, hn, r2⟩
 ·simp only [Option.some.injEq, Prod.mk.injEq] at h
  obtain ⟨rfl, rfl⟩ := h
  simp at hm; omega
 ·cases h
def bndV (t : VTm) (d : Nat) : Option Operand → Nat → Prop
 | none, k => k = d
 | some x, k => ∃ ik, t.ev x = some (.sc (.int ik (k : Int)))
theorem bndV_sound {H : St} {X : Nat → Prop} {T : Tm} (ht : TmV H X t T) {d k : Nat} {x : Option Operand} (h : bndV t d x k) : ∃ v, T.evOpt x = some v ∧ bnd v d = some k := by
 cases x with
 | none => exact ⟨none, rfl, by have h : k = d := h; rw [h]; rfl⟩
 | some x =>
  obtain ⟨ik, h⟩ := h
  obtain ⟨v, e, hv⟩ := zA4 ht h
  obtain ⟨rfl, _⟩ := hv.sc_inv
  exact ⟨some (.int ik (k : Int)), by simp only [Tm.evOpt, e, Option.map_some], rfl⟩
theorem opV_slice {o : Oper} {ty e : TypeId} {x : Operand} {lo hi : Option Operand} {p : PV} {z l m : Nat} {xs : List (List PV)} {inf : TypeInfo} (ho : o.op = .slice ty x lo hi none) (hx : t.ev x = some p) (he : p.els = some (z, xs)) (hu : P.underlying ty = some (.slice e)) (hin : P.info? e = some inf)
    (hz : inf.size = z) (hlo : bndV t 0 lo l) (hhi : bndV t xs.length hi m) (hl : l < m) (hm : m ≤ xs.length) : OpV P s t o (.sl z ((xs.drop l).take (m - l))) s := zBW fun H T hs ht => by
 obtain ⟨v, e1, hv⟩ := zA4 ht hx
 obtain ⟨a, n, c, b, off, c', rfl, h2, h3, h4⟩ := els_slice he hv hl hm
 subst h3
 obtain ⟨vlo, e2, q2⟩ := bndV_sound ht hlo
 obtain ⟨vhi, e3, q3⟩ := bndV_sound ht hhi
 subst hz
 have e4 : T.evOpt none = some none := rfl
 exact ⟨_, by simp only [St.op, ho, e1, e2, e3, e4, sliceVal, hu, hin, q2, q3, h2, keep], h4⟩
theorem opE_fn {o : Oper} {c : Call} {f : FuncId} {x : Operand} {fn : Func} {body : Code} {ps first captured : List PV} (ho : o.op = .call c) (hc : c.callee = .value x) (hx : t.ev x = some (.fn (.func f) first captured)) (ha : t.evs c.args.toList = some ps) (hf : P.funcs[f]? = some fn) (hb : fn.body = some body)
    (hn : zBM fn.name = false) : OpE P s t o f (first ++ ps ++ captured) := fun H T hs ht => by
 obtain ⟨vs, e1, hvs⟩ := vevs_sound ht ha
 obtain ⟨v, e2, hv⟩ := zA4 ht hx
 have app : ∀ {l m : List PV} {a b : List Value}, DVs H (Own' s) l a → DVs H (Own' s) m b → DVs H (Own' s) (l ++ m) (a ++ b) := by
  intro l m a b h k
  induction h with
  | nil => exact k
  | cons h1 _ ih => exact .cons h1 ih
 cases hv with
 | fn h1 h2 h3 h4 =>
  rename_i c1 d1
  refine ⟨c1.toList ++ vs ++ d1.toList, ?_, app (app (.mk h1 h2) hvs) (.mk h3 h4)⟩
  simp only [St.op, ho, e1, hc, e2, callRes, hf, hb, hn, cond_false]
end Go.AE
namespace Go.AE
variable {P : Program} {ops : Array Oper} {t : VTm} {s : VSt} {o : Oper} {x y : Operand}
def zCT (P : Program) (sty f off : Nat) : Bool :=
 match P.underlying sty with
 | some (.struct fs) => (match fs[f]? with | some fd => Nat.beq fd.offset off && (match P.info? fd.type with | some i => !Nat.beq i.size 0 | none => false) | none => false)
 | _ => false
def slOk (P : Program) (ty z : Nat) : Bool :=
 match P.underlying ty with
 | some (.slice e) => (match P.info? e with | some i => Nat.beq i.size z | none => false)
 | _ => false
def arrOk (P : Program) (ty n z : Nat) : Bool :=
 match P.underlying ty with
 | some (.array m e) => Nat.beq m n && (match P.info? e with | some i => Nat.beq i.size z | none => false)
 | _ => false
def strOk (P : Program) (ty : Nat) : Bool := match P.underlying ty with | some .string => true | _ => false
def zDO (P : Program) (ty : Nat) : Bool := match P.underlying ty with | some d => !isAggD d | none => false
def aggOk (P : Program) (ty n : Nat) : Bool :=
 match P.underlying ty with | some d => isAggD d && (match P.info? ty with | some i => Nat.beq i.size n | none => false) | none => false
def szOk (P : Program) (ty n : Nat) : Bool := match P.info? ty with | some i => Nat.beq i.size n | none => false
def lit1Ok (P : Program) (ty z : Nat) : Bool :=
 match P.underlying ty with
 | some (.slice e) => (match P.info? e, zDD P e with | some i, some l => Nat.beq i.size z && Nat.beq l.length z && Nat.blt 0 z && Nat.ble z 16777216 | _, _ => false)
 | _ => false
theorem fieldOk_spec {sty f off : Nat} (h : zCT P sty f off = true) : ∃ fs fd i, P.underlying sty = some (.struct fs) ∧ fs[f]? = some fd ∧ P.info? fd.type = some i ∧ i.size ≠ 0 ∧ fd.offset = off := by
 unfold zCT at h
 split at h
 ·rename_i fs hu
  split at h
  ·rename_i fd hf
   rw [Bool.and_eq_true] at h
   obtain ⟨h1, h2⟩ := h
   split at h2
   ·rename_i i hi
    exact ⟨fs, fd, i, hu, hf, hi, fun e => by rw [e] at h2; simp at h2, Nat.eq_of_beq_eq_true h1⟩
   ·cases h2
  ·cases h
 ·cases h
theorem zD4 {ty z : Nat} (h : slOk P ty z = true) : ∃ e i, P.underlying ty = some (.slice e) ∧ P.info? e = some i ∧ i.size = z := by
 unfold slOk at h
 split at h
 ·rename_i e hu
  split at h
  ·rename_i i hi; exact ⟨e, i, hu, hi, Nat.eq_of_beq_eq_true h⟩
  ·cases h
 ·cases h
theorem arrOk_spec {ty n z : Nat} (h : arrOk P ty n z = true) : ∃ e i, P.underlying ty = some (.array n e) ∧ P.info? e = some i ∧ i.size = z := by
 unfold arrOk at h
 split at h
 ·rename_i m e hu
  rw [Bool.and_eq_true] at h
  obtain ⟨h1, h2⟩ := h
  have := Nat.eq_of_beq_eq_true h1
  subst this
  split at h2
  ·rename_i i hi; exact ⟨e, i, hu, hi, Nat.eq_of_beq_eq_true h2⟩
  ·cases h2
 ·cases h
theorem strOk_spec {ty : Nat} (h : strOk P ty = true) : P.underlying ty = some .string := by
 unfold strOk at h
 split at h
 ·rename_i hu; exact hu
 ·cases h
theorem cellOk_spec {ty : Nat} (h : zDO P ty = true) : ∃ d, P.underlying ty = some d ∧ isAggD d = false := by
 unfold zDO at h
 split at h
 ·rename_i d hu; exact ⟨d, hu, by simpa using h⟩
 ·cases h
theorem aggOk_spec {ty n : Nat} (h : aggOk P ty n = true) : ∃ d i, P.underlying ty = some d ∧ isAggD d = true ∧ P.info? ty = some i ∧ i.size = n := by
 unfold aggOk at h
 split at h
 ·rename_i d hu
  rw [Bool.and_eq_true] at h
  obtain ⟨h1, h2⟩ := h
  split at h2
  ·rename_i i hi; exact ⟨d, i, hu, h1, hi, Nat.eq_of_beq_eq_true h2⟩
  ·cases h2
 ·cases h
theorem szOk_spec {ty n : Nat} (h : szOk P ty n = true) : ∃ i, P.info? ty = some i ∧ i.size = n := by
 unfold szOk at h
 split at h
 ·rename_i i hi; exact ⟨i, hi, Nat.eq_of_beq_eq_true h⟩
 ·cases h
theorem lit1Ok_spec {ty z : Nat} (h : lit1Ok P ty z = true) : ∃ e i l, P.underlying ty = some (.slice e) ∧ P.info? e = some i ∧ zDD P e = some l ∧ i.size = z ∧ l.length = z ∧ 0 < z ∧ z ≤ 16777216 := by
 unfold lit1Ok at h
 split at h
 ·rename_i e hu
  split at h
  ·rename_i i l hi hz
   simp only [Bool.and_eq_true] at h
   exact ⟨e, i, l, hu, hi, hz, Nat.eq_of_beq_eq_true h.1.1.1, Nat.eq_of_beq_eq_true h.1.1.2, Nat.le_of_ble_eq_true h.1.2, Nat.le_of_ble_eq_true h.2⟩
  ·cases h
 ·cases h
theorem o_pt {c a b : Operand} {p : PV} (ho : o.op = .pick c a b) (hc : t.ev c = some (.sc (.bool true))) (h : t.ev a = some p) : OpV P s t o p s := opV_pick ho hc (by rw [if_pos rfl]; exact h)
theorem o_pf {c a b : Operand} {p : PV} (ho : o.op = .pick c a b) (hc : t.ev c = some (.sc (.bool false))) (h : t.ev b = some p) : OpV P s t o p s := opV_pick ho hc (by rw [if_neg (by simp)]; exact h)
theorem o_fa {sty f off z i k : Nat} {xs : List (List PV)} (ho : o.op = .fieldAddr sty x f) (hk : zCT P sty f off = true) (hx : t.ev x = some (.ea z xs i k)) : OpV P s t o (.ea z xs i (k + off)) s := by
 obtain ⟨fs, fd, inf, h1, h2, h3, h4, rfl⟩ := fieldOk_spec hk
 exact opV_fieldAddr ho hx h1 h2 h3 h4
theorem zDC {sty f off b k : Nat} (ho : o.op = .fieldAddr sty x f) (hk : zCT P sty f off = true) (hx : t.ev x = some (.pt b k)) : OpV P s t o (.pt b (k + off)) s := by
 obtain ⟨fs, fd, inf, h1, h2, h3, h4, rfl⟩ := fieldOk_spec hk
 exact opV_fieldAddrPt ho hx h1 h2 h3 h4
theorem o_ia {ty z i : Nat} {ix : Operand} {k : IntKind} {p : PV} {xs : List (List PV)} (ho : o.op = .indexAddr ty x ix) (hk : slOk P ty z = true) (hx : t.ev x = some p) (hix : t.ev ix = some (.sc (.int k (.ofNat i)))) (he : p.els = some (z, xs)) (hi : i < xs.length) :
    OpV P s t o (.ea z xs i 0) s := by
 obtain ⟨e, inf, h1, h2, h3⟩ := zD4 hk
 exact opV_indexAddr ho hx hix he h1 h2 h3 hi
theorem o_iaI {ty z : Nat} {ix : Operand} {k : IntKind} {n : Int} {p : PV} {xs : List (List PV)} (ho : o.op = .indexAddr ty x ix) (hk : slOk P ty z = true) (hx : t.ev x = some p) (hix : t.ev ix = some (.sc (.int k n))) (he : p.els = some (z, xs)) (hn : 0 ≤ n) (hi : n.toNat < xs.length) :
    OpV P s t o (.ea z xs n.toNat 0) s := by
 have e : Int.ofNat n.toNat = n := Int.toNat_of_nonneg hn
 exact o_ia (i := n.toNat) (k := k) ho hk hx (by rw [hix, e]) he hi
theorem o_iam {ty z i b off n c : Nat} {ix : Operand} {k : IntKind} (ho : o.op = .indexAddr ty x ix) (hk : slOk P ty z = true) (hx : t.ev x = some (.ms b off n c)) (hix : t.ev ix = some (.sc (.int k (.ofNat i)))) (hi : i < n) : OpV P s t o (.pt b (off + i * z)) s := by
 obtain ⟨e, inf, h1, h2, rfl⟩ := zD4 hk
 exact opV_indexAddrMs ho hx hix h1 h2 hi
theorem o_iap {ty z i b off n : Nat} {ix : Operand} {k : IntKind} (ho : o.op = .indexAddr ty x ix) (hk : arrOk P ty n z = true) (hx : t.ev x = some (.pt b off)) (hix : t.ev ix = some (.sc (.int k (.ofNat i)))) (hi : i < n) : OpV P s t o (.pt b (off + i * z)) s := by
 obtain ⟨e, inf, h1, h2, rfl⟩ := arrOk_spec hk
 exact opV_indexAddrPt ho hx hix h1 h2 hi
theorem o_l1 {ty z i k : Nat} {xs : List (List PV)} {row : List PV} {p : PV} (ho : o.op = .load ty x) (hk : zDO P ty = true) (hx : t.ev x = some (.ea z xs i k)) (hr : xs[i]? = some row) (hp : row[k]? = some p) : OpV P s t o p s := by
 obtain ⟨d, h1, h2⟩ := cellOk_spec hk
 exact opV_load1 ho hx hr hp h1 h2
theorem o_lA {ty z i k n : Nat} {xs : List (List PV)} {row ps : List PV} (ho : o.op = .load ty x) (hk : aggOk P ty n = true) (hx : t.ev x = some (.ea z xs i k)) (hr : xs[i]? = some row) (hp : (row.drop k).take n = ps) (hl : k + n ≤ row.length) : OpV P s t o (.ag ps) s := by
 obtain ⟨d, inf, h1, h2, h3, rfl⟩ := aggOk_spec hk
 subst hp
 exact opV_loadAgg ho hx hr h1 h2 h3 hl
theorem zCW {ty b k : Nat} {cs : List PV} {p : PV} (ho : o.op = .load ty x) (hk : zDO P ty = true) (hx : t.ev x = some (.pt b k)) (hm : s.mem b = some cs) (hp : cs[k]? = some p) : OpV P s t o p s := by
 obtain ⟨d, h1, h2⟩ := cellOk_spec hk
 exact opV_loadPt ho hx hm hp h1 h2
theorem o_lAp {ty b k n : Nat} {cs ps : List PV} (ho : o.op = .load ty x) (hk : aggOk P ty n = true) (hx : t.ev x = some (.pt b k)) (hm : s.mem b = some cs) (hp : (cs.drop k).take n = ps) (hl : k + n ≤ cs.length) : OpV P s t o (.ag ps) s := by
 obtain ⟨d, inf, h1, h2, h3, h4⟩ := aggOk_spec hk
 subst hp
 exact opV_loadPtAgg ho hx hm h1 h2 h3 h4 hl
theorem o_st {ty b k : Nat} {cs cs' : List PV} {p : PV} (ho : o.op = .store ty x y) (hx : t.ev x = some (.pt b k)) (hy : t.ev y = some p) (hk : szOk P ty p.cells.length = true) (hm : s.mem b = some cs) (hl : k + p.cells.length ≤ cs.length) (hf : p.cells.all PV.flat = true) (hc : splice cs k p.cells = cs') :
    OpV P s t o (.sc undef) (s.setMem b cs') := by
 obtain ⟨inf, h1, h2⟩ := szOk_spec hk
 subst hc
 exact opV_store ho hx hy hm h1 h2 hl hf
theorem zBC {c : Call} {ty z zz m : Nat} {p : PV} {xs : List (List PV)} (ho : o.op = .call c) (hb : c.callee = .builtin .len) (ha : c.args = #[x]) (hty : c.argTypes = #[ty]) (hk : slOk P ty zz = true) (hx : t.ev x = some p) (he : p.els = some (z, xs)) (hl : xs.length = m) : OpV P s t o (.sc (.int .i64 (m : Nat))) s := by
 obtain ⟨e, inf, h1, _, _⟩ := zD4 hk
 subst hl
 exact opV_len ho hb ha hty h1 hx he
theorem o_lenm {c : Call} {ty zz b off n cp : Nat} (ho : o.op = .call c) (hb : c.callee = .builtin .len) (ha : c.args = #[x]) (hty : c.argTypes = #[ty]) (hk : slOk P ty zz = true) (hx : t.ev x = some (.ms b off n cp)) : OpV P s t o (.sc (.int .i64 (n : Nat))) s := by
 obtain ⟨e, inf, h1, _, _⟩ := zD4 hk
 exact opV_lenMs ho hb ha hty h1 hx
theorem o_lens {c : Call} {ty : Nat} {b : ByteArray} (ho : o.op = .call c) (hb : c.callee = .builtin .len) (ha : c.args = #[x]) (hty : c.argTypes = #[ty]) (hk : strOk P ty = true) (hx : t.ev x = some (.sc (.string b))) : OpV P s t o (.sc (.int .i64 (b.size : Nat))) s :=
 opV_lenStr ho hb ha hty (strOk_spec hk) hx
theorem o_lit1 {ty z : Nat} {p : PV} {cs : List PV} (ho : o.op = .buildSlice ty 1 #[(0, x)]) (hx : t.ev x = some p) (hk : lit1Ok P ty z = true) (hc : p.cells = cs) (hz : cs.length = z) : OpV P s t o (.sl z [cs]) (s.to (s.next + 1)) := by
 obtain ⟨e, inf, l, h1, h2, h3, rfl, h4, h5, h6⟩ := lit1Ok_spec hk
 subst hc
 exact opV_buildSlice1 ho hx h1 h2 h3 h4 hz h5 h6
theorem o_slice {ty z l m : Nat} {lo hi : Option Operand} {p : PV} {xs : List (List PV)} (ho : o.op = .slice ty x lo hi none) (hk : slOk P ty z = true) (hx : t.ev x = some p) (he : p.els = some (z, xs)) (hlo : bndV t 0 lo l) (hhi : bndV t xs.length hi m) (hl : l < m) (hm : m ≤ xs.length) :
    OpV P s t o (.sl z ((xs.drop l).take (m - l))) s := by
 obtain ⟨e, inf, h1, h2, h3⟩ := zD4 hk
 exact opV_slice ho hx he h1 h2 h3 hlo hhi hl hm
theorem o_box {e : TypeId} {p : PV} {cs : List PV} (ho : o.op = .box e x) (hx : t.ev x = some p) (hc : p.cells = cs) : OpV P s t o (.pt s.next 0) (s.new cs) := by subst hc; exact opV_box ho hx
theorem o_boxr {e : TypeId} {p : PV} {cs : List PV} {n : Nat} (ho : o.op = .box e x) (hx : t.ev x = some p) (hc : p.cells = cs) (hn : cs.length = n) : OpV P s t o (.ea n [cs] 0 0) (s.to (s.next + 1)) := by subst hn; subst hc; exact opV_boxro ho hx
theorem o_all {e : TypeId} {l : List Value} {cs : List PV} (ho : o.op = .alloc e) (hz : zDD P e = some l) (hc : l.map .sc = cs) : OpV P s t o (.pt s.next 0) (s.new cs) := by subst hc; exact opV_alloc ho hz
theorem zC4 {ty : TypeId} {parts : Array (Nat × Operand)} {ps : List (Nat × PV)} {zc : List Value} {pl : List (Nat × Nat)} {r : List PV} (ho : o.op = .build ty parts) (hz : zDD P ty = some zc) (hpl : placesOf P ty = some pl) (hp : t.evParts parts.toList = some ps)
    (hr : pfill (pl[·]?) (zc.map .sc) ps = some r) : OpV P s t o (.ag r) s := opV_build ho hp hz hpl hr
theorem zAU {α : Type} {l : List α} {f : α → List PV} {i : Nat} (h : i < l.length) : (l.map f)[i]? = some (f l[i]) := by rw [List.getElem?_map, List.getElem?_eq_getElem h]; rfl
theorem mem_new0 {cs : List PV} : (s.new cs).mem s.next = some cs := by show (if s.next = s.next then _ else _) = _; rw [if_pos rfl]
theorem zDL {b : Nat} {cs : List PV} {r : Option (List PV)} (h : b ≠ s.next) (g : s.mem b = r) : (s.new cs).mem b = r := by show (if b = s.next then _ else _) = _; rw [if_neg h]; exact g
theorem mem_set0 {b : Nat} {cs : List PV} : (s.setMem b cs).mem b = some cs := by show (if b = b then _ else _) = _; rw [if_pos rfl]
theorem zCI {b b' : Nat} {cs : List PV} {r : Option (List PV)} (h : b ≠ b') (g : s.mem b = r) : (s.setMem b' cs).mem b = r := by show (if b = b' then _ else _) = _; rw [if_neg h]; exact g
theorem zAP {cs : List PV} : (s.new cs).next = s.next + 1 := rfl
theorem zAR {n : Nat} : (s.to n).next = n := rfl
theorem zAK {b : Nat} {cs : List PV} : (s.setMem b cs).next = s.next := rfl
theorem zA8 {k : Nat} {p q : PV} (h : t.m k = p) (e : p = q) : t.m k = q := h.trans e
end Go.AE
namespace Go.AE
variable {P : Program} {ops : Array Oper} {t : VTm} {s : VSt} {o : Oper} {x y : Operand} {wr : Nat → Bool}
theorem zAN {fn : Func} {s0 : VSt} {r : PV} {rs : List ResultVar} {ps : List PV} (hr : fn.results.toList = rs) (h : ResV P t s rs ps) (w : PWk (tupV ps) r) (e : Ext0 s0 s) : postP P fn s0 r .ret t s := ⟨ps, by rw [hr]; exact h, w, e⟩
theorem post_nm {fn : Func} {s0 : VSt} {r : PV} {rs : List ResultVar} {ps : List PV} (hr : fn.results.toList = rs) (h : ResV P t s rs ps) (w : PWk (tupV ps) r) (e : Ext0 s0 s) : postP P fn s0 r .normal t s := ⟨ps, by rw [hr]; exact h, w, e⟩
theorem zCJ {fn : Func} {Q : PV → VSt → Prop} {r : PV} {s2 : VSt} {rs : List ResultVar} {ps : List PV} (hr : fn.results.toList = rs) (h : ResV P t s rs ps) (w : PWk (tupV ps) r) (e : VSub s2 s) (q : Q r s2) : postV P fn Q .ret t s := ⟨ps, s2, r, by rw [hr]; exact h, e, w, q⟩
theorem postQ_nm {fn : Func} {Q : PV → VSt → Prop} {r : PV} {s2 : VSt} {rs : List ResultVar} {ps : List PV} (hr : fn.results.toList = rs) (h : ResV P t s rs ps) (w : PWk (tupV ps) r) (e : VSub s2 s) (q : Q r s2) : postV P fn Q .normal t s := ⟨ps, s2, r, by rw [hr]; exact h, e, w, q⟩
theorem pend_all {k : Nat} {pend : List Pd} {s' : VSt} (h : pend.all (fun q => (befAt ops k).testBit q.j) = true) : ∀ q ∈ pend, (befAt ops k).testBit q.j = true ∨ Stab P ops q.o q.t s' q.p := fun q hq => .inl (List.all_eq_true.1 h q hq)
theorem stab_opN {p : PV} (hg : zCO ops (t.only (o.looksAt ops)) o = some true) (h : ∀ n, s.next ≤ n → OpV P (s.to n) (t.only (o.looksAt ops)) o p ((s.to n).to ((s.to n).next + 1))) : Stab P ops o t s p := fun n hn =>
 (zCE hg (h n hn)).mono fun p' s' ⟨e1, e2⟩ => ⟨e1, n + 1, Nat.le_succ n, e2⟩
theorem dw_if {k : Nat} {l : List Oper} {Q : VTm → VSt → Prop} {pend : List Pd} {c : Prop} [Decidable c] (hw : wr k = false) (hg : zCO ops (t.only (o.looksAt ops)) o = some true)
    (hop : ∀ n, s.next ≤ n → OpV P (s.to n) (t.only (o.looksAt ops)) o (.sc (.bool (decide c))) (s.to n)) (hd : dstOk t o.dst = true)
    (h1 : c → DW P ops wr Q (k + 1) l (t.setO o.dst (.sc (.bool true))) s (⟨k, o, t, .sc (.bool true)⟩ :: pend))
    (h2 : ¬ c → DW P ops wr Q (k + 1) l (t.setO o.dst (.sc (.bool false))) s (⟨k, o, t, .sc (.bool false)⟩ :: pend)) : DW P ops wr Q k (o :: l) t s pend := by
 by_cases hc : c
 ·refine dw_op hw (zAH hg fun n hn => ?_) hd (h1 hc)
  have := hop n hn
  rwa [decide_eq_true hc] at this
 ·refine dw_op hw (zAH hg fun n hn => ?_) hd (h2 hc)
  have := hop n hn
  rwa [decide_eq_false hc] at this
theorem dw_ifb {k : Nat} {l : List Oper} {Q : VTm → VSt → Prop} {pend : List Pd} {b : Bool} (hw : wr k = false) (hs : Stab P ops o t s (.sc (.bool b))) (hd : dstOk t o.dst = true)
    (h1 : b = true → DW P ops wr Q (k + 1) l (t.setO o.dst (.sc (.bool true))) s (⟨k, o, t, .sc (.bool true)⟩ :: pend))
    (h2 : b = false → DW P ops wr Q (k + 1) l (t.setO o.dst (.sc (.bool false))) s (⟨k, o, t, .sc (.bool false)⟩ :: pend)) : DW P ops wr Q k (o :: l) t s pend := by
 refine dw_op hw hs hd ?_
 cases b with
 | true => exact h1 rfl
 | false => exact h2 rfl
theorem vstep_und {j d : Nat} {want : Bool} (h : o.guard = some (j, want)) (hj : (ops[j]?).bind (·.dst) = some d) (hv : t.m d = .sc undef) : VStep P ops o t s (Is (.sc undef) s) := fun H T μ w a hs ht ha hT => by
 have hw : zCA ops T o = false := by
  unfold zCA
  rw [h]; dsimp only; rw [hj]; dsimp only
  have hd := ht.2 d
  rw [hv] at hd
  cases hm : T.m.get d with
  | none => rfl
  | some y =>
   rw [hm] at hd
   obtain ⟨e, _⟩ := hd.sc_inv
   have e : y = undef := e
   subst e; rfl
 exact ⟨fun h => (by rw [hw] at h; cases h), fun _ => ⟨rfl, rfl⟩⟩
theorem vskipu {l : List Oper} {Q : VTm → VSt → Prop} {d0 j d : Nat} {want : Bool} (h : o.guard = some (j, want)) (hj : (ops[j]?).bind (·.dst) = some d) (hv : t.m d = .sc undef) (hd : o.dst = some d0) (hn : Nat.blt d0 t.n = true)
    (k : VSeq P ops l (t.set d0 (.sc undef)) s Q) : VSeq P ops (o :: l) t s Q := vseq_is (vstep_und h hj hv) (by rw [hd]; exact hn) (by rw [hd]; exact k)
theorem zBB {j d : Nat} {want : Bool} (h : o.guard = some (j, want)) (hj : (ops[j]?).bind (·.dst) = some d) (hv : (t.only (o.looksAt ops)).m d = .sc undef) : Stab P ops o t s (.sc undef) := stab_is fun n hn => vstep_und h hj hv
theorem zBT {b c : Bool} (h : c = b) : PWk (tupV [.sc (.bool b)]) (.sc (.bool c)) := by subst h; exact .refl _
theorem zCF {n m : Int} (h : m = n) : PWk (tupV [.sc (.int .i64 n)]) (.sc (.int .i64 m)) := by subst h; exact .refl _
theorem opV_eqlS {ty yt : TypeId} {a b : ByteArray} (ho : o.op = .binOp .eql ty x y yt) (hx : t.ev x = some (.sc (.string a))) (hy : t.ev y = some (.sc (.string b))) : OpV P s t o (.sc (.bool (a.toList == b.toList))) s := zCP ho hx hy rfl rfl
theorem opV_lssS {ty yt : TypeId} {a b : ByteArray} (ho : o.op = .binOp .lss ty x y yt) (hx : t.ev x = some (.sc (.string a))) (hy : t.ev y = some (.sc (.string b))) : OpV P s t o (.sc (.bool (Op.bytesLess a.toList b.toList))) s := zCP ho hx hy rfl rfl
theorem opV_gtrS {ty yt : TypeId} {a b : ByteArray} (ho : o.op = .binOp .gtr ty x y yt) (hx : t.ev x = some (.sc (.string a))) (hy : t.ev y = some (.sc (.string b))) : OpV P s t o (.sc (.bool (!(Op.bytesLess a.toList b.toList || a.toList == b.toList)))) s := zCP ho hx hy rfl rfl
theorem toList_eq_nil (a : ByteArray) : (a.toList == ByteArray.empty.toList) = decide (a.size = 0) := by
 have h1 : ByteArray.empty.toList = [] := by rw [ByteArray.toList_eq]; rfl
 have h2 : a.toList.length = a.size := by rw [ByteArray.toList_eq]; simp
 rw [h1]
 cases h : a.toList with
 | nil =>
  have e : a.size = 0 := by rw [← h2, h]; rfl
  rw [e]; rfl
 | cons x l =>
  have e : a.size = l.length + 1 := by rw [← h2, h]; rfl
  rw [e]; simp
theorem toList_eq_nil1 (a : ByteArray) : (a.toList == (ByteArray.mk #[]).toList) = decide (a.size = 0) := toList_eq_nil a
theorem PWk.ofEq {p q : PV} (h : p = q) : PWk p q := by subst h; exact .refl _
theorem opV_quoN {ty yt : TypeId} {n m : Nat} (ho : o.op = .binOp .quo ty x y yt) (hx : t.ev x = some (.sc (.int .i64 (n : Int)))) (hy : t.ev y = some (.sc (.int .i64 (m : Int)))) (hm : m ≠ 0) (hn : n ≤ 9223372036854775807) : OpV P s t o (.sc (.int .i64 ((n / m : Nat) : Int))) s := by
 refine zCP ho hx hy ?_ rfl
 have h1 : ¬ ((m : Int) = 0) := by omega
 have h2 : (n : Int).tdiv (m : Int) = ((n / m : Nat) : Int) := rfl
 have h3 : n / m ≤ n := Nat.div_le_self _ _
 have h4 : IntKind.wrap .i64 ((n / m : Nat) : Int) = ((n / m : Nat) : Int) := by
  generalize n / m = q at h3
  exact zD3 (by omega)
 simp only [binVal, scal, zCM, Bool.and_self, cond_true]
 have : binOp .quo ty (.int .i64 (n : Int)) (.int .i64 (m : Int)) = Pure.pure (.int .i64 ((n / m : Nat) : Int)) := by
  simp only [binOp, Op.intDiv, if_neg h1, ne_eq, not_true_eq_false, if_false, h2, h4]
 rw [this]; rfl
theorem Gr.lift {s s' : VSt} {z : Nat} {p : PV} {xs : List (List PV)} (h : Gr s z p xs) (hg : s'.grow = s.grow) (hn : s.next ≤ s'.next) : Gr s' z p xs := by
 cases h with
 | nil => exact .nil
 | gl h1 h2 h3 => exact .gl (by rw [hg]; exact h1) (Nat.lt_of_lt_of_le h2 hn) h3
theorem o_lA0 {ty z i n : Nat} {xs : List (List PV)} {row : List PV} (ho : o.op = .load ty x) (hk : aggOk P ty n = true) (hx : t.ev x = some (.ea z xs i 0)) (hr : xs[i]? = some row) (hl : row.length = n) : OpV P s t o (.ag row) s :=
 o_lA ho hk hx hr (by rw [List.drop_zero, List.take_of_length_le (by omega)]) (by omega)
theorem o_lA0p {ty b n : Nat} {cs : List PV} (ho : o.op = .load ty x) (hk : aggOk P ty n = true) (hx : t.ev x = some (.pt b 0)) (hm : s.mem b = some cs) (hl : cs.length = n) : OpV P s t o (.ag cs) s :=
 o_lAp ho hk hx hm (by rw [List.drop_zero, List.take_of_length_le (by omega)]) (by omega)
theorem o_litA {ty z : Nat} {cs : List PV} (ho : o.op = .buildSlice ty 1 #[(0, x)]) (hx : t.ev x = some (.ag cs)) (hk : lit1Ok P ty z = true) (hz : cs.length = z) : OpV P s t o (.sl z [cs]) (s.to (s.next + 1)) := o_lit1 ho hx hk rfl hz
theorem o_litS {ty : Nat} {p : PV} (ho : o.op = .buildSlice ty 1 #[(0, x)]) (hx : t.ev x = some p) (hk : lit1Ok P ty 1 = true) (hc : p.cells = [p]) : OpV P s t o (.sl 1 [[p]]) (s.to (s.next + 1)) := o_lit1 ho hx hk hc rfl
theorem zC5 {e : TypeId} {cs : List PV} {n : Nat} (ho : o.op = .box e x) (hx : t.ev x = some (.ag cs)) (hn : cs.length = n) : OpV P s t o (.ea n [cs] 0 0) (s.to (s.next + 1)) := o_boxr ho hx rfl hn
theorem o_boxrS {e : TypeId} {p : PV} (ho : o.op = .box e x) (hx : t.ev x = some p) (hc : p.cells = [p]) : OpV P s t o (.ea 1 [[p]] 0 0) (s.to (s.next + 1)) := o_boxr ho hx hc rfl
theorem o_boxA {e : TypeId} {cs : List PV} (ho : o.op = .box e x) (hx : t.ev x = some (.ag cs)) : OpV P s t o (.pt s.next 0) (s.new cs) := o_box ho hx rfl
theorem zDN {cs : List PV} (h : cs.all PV.flat = true) : ∀ row ∈ [cs], ∀ x ∈ row, x.flat = true := fun row hr x hx => by
 rw [List.mem_singleton] at hr; subst hr
 exact List.all_eq_true.1 h x hx
theorem fl_map {α : Type} {l : List α} {f : α → List PV} (h : ∀ a, (f a).all PV.flat = true) : ∀ row ∈ l.map f, ∀ x ∈ row, x.flat = true := fun row hr x hx => by
 obtain ⟨a, _, rfl⟩ := List.mem_map.1 hr
 exact List.all_eq_true.1 (h a) x hx
theorem dwE {k : Nat} {l : List Oper} {Q : VTm → VSt → Prop} {pend : List Pd} {s0 : VSt} (hE : Ext0 s0 s) (h : Ext0 s0 s → DW P ops wr Q k l t s pend) : DW P ops wr Q k l t s pend := h hE
theorem vdE {l : List Oper} {Q : VTm → VSt → Prop} {p : PV} {s0 s1 : VSt} {d : Nat} (hg : zCO ops t o = some true) (hop : OpV P s t o p s1) (hd : o.dst = some d) (hn : Nat.blt d t.n = true) (hE : Ext0 s0 s1)
    (h : Ext0 s0 s1 → VSeq P ops l (t.set d p) s1 Q) : VSeq P ops (o :: l) t s Q := vd hg hop hd hn (h hE)
theorem vnE {l : List Oper} {Q : VTm → VSt → Prop} {p : PV} {s0 s1 : VSt} (hg : zCO ops t o = some true) (hop : OpV P s t o p s1) (hd : o.dst = none) (hE : Ext0 s0 s1)
    (h : Ext0 s0 s1 → VSeq P ops l t s1 Q) : VSeq P ops (o :: l) t s Q := vn hg hop hd (h hE)
theorem zBP {a b k n : Nat} {ty : TypeId} {cs qs : List PV} {rs : List ResultVar} {ps : List PV} (hk : aggOk P ty n = true) (h : t.m a = .pt b k) (hm : s.mem b = some cs) (hq : (cs.drop k).take n = qs) (hl : k + n ≤ cs.length) (g : ResV P t s rs ps) : ResV P t s (.cell a ty :: rs) (.ag qs :: ps) := by
 obtain ⟨d, i, h1, h2, h3, h4⟩ := aggOk_spec hk
 subst hq
 exact .cellAgg h hm h1 h2 h3 h4 hl g
theorem dwo {k d : Nat} {l : List Oper} {Q : VTm → VSt → Prop} {pend : List Pd} {p : PV} (hw : wr k = false) (hs : Stab P ops o t s p) (hd : o.dst = some d) (hn : Nat.blt d t.n = true) (h : DW P ops wr Q (k + 1) l (t.set d p) s (⟨k, o, t, p⟩ :: pend)) :
    DW P ops wr Q k (o :: l) t s pend := dw_op hw hs (by rw [hd]; exact hn) (by rw [hd]; exact h)
theorem dwif {k d : Nat} {l : List Oper} {Q : VTm → VSt → Prop} {pend : List Pd} {c : Prop} [Decidable c] (hw : wr k = false) (hg : zCO ops (t.only (o.looksAt ops)) o = some true)
    (hop : ∀ n, s.next ≤ n → OpV P (s.to n) (t.only (o.looksAt ops)) o (.sc (.bool (decide c))) (s.to n)) (hd : o.dst = some d) (hn : Nat.blt d t.n = true)
    (h1 : c → DW P ops wr Q (k + 1) l (t.set d (.sc (.bool true))) s (⟨k, o, t, .sc (.bool true)⟩ :: pend))
    (h2 : ¬ c → DW P ops wr Q (k + 1) l (t.set d (.sc (.bool false))) s (⟨k, o, t, .sc (.bool false)⟩ :: pend)) : DW P ops wr Q k (o :: l) t s pend :=
 dw_if hw hg hop (by rw [hd]; exact hn) (by rw [hd]; exact h1) (by rw [hd]; exact h2)
theorem dwifb {k d : Nat} {l : List Oper} {Q : VTm → VSt → Prop} {pend : List Pd} {b : Bool} (hw : wr k = false) (hs : Stab P ops o t s (.sc (.bool b))) (hd : o.dst = some d) (hn : Nat.blt d t.n = true)
    (h1 : b = true → DW P ops wr Q (k + 1) l (t.set d (.sc (.bool true))) s (⟨k, o, t, .sc (.bool true)⟩ :: pend))
    (h2 : b = false → DW P ops wr Q (k + 1) l (t.set d (.sc (.bool false))) s (⟨k, o, t, .sc (.bool false)⟩ :: pend)) : DW P ops wr Q k (o :: l) t s pend :=
 dw_ifb hw hs (by rw [hd]; exact hn) (by rw [hd]; exact h1) (by rw [hd]; exact h2)
theorem dwwr {k d : Nat} {l : List Oper} {Q : VTm → VSt → Prop} {pend : List Pd} (hw : wr k = true) (hd : o.dst = some d) (hn : Nat.blt d t.n = true)
    (h : ∀ n, s.next ≤ n → VStep P ops o (t.only (o.looksAt ops)) (s.to n) fun p s' => (∀ q ∈ pend, (befAt ops k).testBit q.j = true ∨ Stab P ops q.o q.t s' q.p) ∧ DW P ops wr Q (k + 1) l (t.set d p) s' pend) :
    DW P ops wr Q k (o :: l) t s pend := dw_wr hw (by rw [hd]; exact hn) (by rw [hd]; exact h)
theorem dwwr0 {k : Nat} {l : List Oper} {Q : VTm → VSt → Prop} {pend : List Pd} (hw : wr k = true) (hd : o.dst = none)
    (h : ∀ n, s.next ≤ n → VStep P ops o (t.only (o.looksAt ops)) (s.to n) fun p s' => (∀ q ∈ pend, (befAt ops k).testBit q.j = true ∨ Stab P ops q.o q.t s' q.p) ∧ DW P ops wr Q (k + 1) l t s' pend) :
    DW P ops wr Q k (o :: l) t s pend := dw_wr hw (by rw [hd]; rfl) (by rw [hd]; exact h)
end Go.AE
namespace Go.AE
variable {P : Program} {ops : Array Oper} {t : VTm} {s : VSt} {o : Oper} {x y : Operand}
theorem range_zero {z : Array Value} (hz : 0 < z.size) (n : Nat) : ((Array.range (n * z.size)).map fun k => z[k % z.size]!).toList = (List.replicate n z.toList).flatten := by
 induction n with
 | zero => simp
 | succ n ih =>
  have e : (List.range ((n + 1) * z.size)) = List.range (n * z.size) ++ (List.range z.size).map (fun k => n * z.size + k) := by
   rw [Nat.add_mul, Nat.one_mul, List.range_add]
  have e2 : ((Array.range ((n + 1) * z.size)).map fun k => z[k % z.size]!).toList = (List.range ((n + 1) * z.size)).map fun k => z[k % z.size]! := by simp
  have e3 : ((Array.range (n * z.size)).map fun k => z[k % z.size]!).toList = (List.range (n * z.size)).map fun k => z[k % z.size]! := by simp
  rw [e2, e, List.map_append, ← e3, ih, List.map_map]
  rw [List.replicate_succ', List.flatten_append]
  congr 1
  simp only [List.flatten_cons, List.flatten_nil, List.append_nil]
  apply List.ext_getElem
  ·simp
  ·intro i h1 h2
   simp only [List.length_map, List.length_range] at h1
   simp only [List.getElem_map, List.getElem_range, Function.comp_apply]
   rw [Nat.mul_comm, Nat.mul_add_mod, Nat.mod_eq_of_lt h1]
   simp [h1]
def mkOk (P : Program) (ty z bytes : Nat) : Bool :=
 match P.underlying ty with
 | some (.slice e) => (match P.info? e, zDD P e with | some i, some l => Nat.beq i.size z && Nat.beq i.bytes bytes && Nat.beq l.length z && Nat.blt 0 z | _, _ => false)
 | _ => false
def mkZero (P : Program) (ty : Nat) : Option (List Value) :=
 match P.underlying ty with
 | some (.slice e) => zDD P e
 | _ => none
theorem o_mk {ty z bytes n : Nat} {l c : Operand} {zc : List Value} (ho : o.op = .makeSlice ty l c) (hk : mkOk P ty z bytes = true) (hz : mkZero P ty = some zc) (hl : t.ev l = some (.sc (.int .i64 (n : Int)))) (hc : t.ev c = some (.sc (.int .i64 (n : Int))))
    (hn : bytes * n ≤ 281474976710656 ∧ n ≤ 281474976710656) : OpV P s t o (.ms s.next 0 n n) (s.new (List.replicate n (zc.map PV.sc)).flatten) := fun H T hs ht => by
 unfold mkOk at hk
 unfold mkZero at hz
 split at hk
 case h_2 => cases hk
 rename_i e hu
 rw [hu] at hz
 dsimp only at hz
 split at hk
 case h_2 => cases hk
 rename_i i l0 hi hz0
 rw [hz0] at hz; cases hz
 simp only [Bool.and_eq_true] at hk
 have k1 := Nat.eq_of_beq_eq_true hk.1.1.1
 have k2 := Nat.eq_of_beq_eq_true hk.1.1.2
 have k3 := Nat.eq_of_beq_eq_true hk.1.2
 have k4 : 0 < z := Nat.le_of_ble_eq_true hk.2
 unfold zDD at hz0
 rw [hi] at hz0
 dsimp only at hz0
 cases hzz : i.zero with
 | none => rw [hzz] at hz0; cases hz0
 | some zv =>
  rw [hzz] at hz0
  dsimp only at hz0
  cases ha : zv.cells.toList.all zCM with
  | false => rw [ha] at hz0; cases hz0
  | true =>
   rw [ha] at hz0; simp only [cond_true, Option.some.injEq] at hz0; subst hz0
   obtain ⟨v1, e1, hv1⟩ := zA4 ht hl
   obtain ⟨rfl, _⟩ := hv1.sc_inv
   obtain ⟨v2, e2, hv2⟩ := zA4 ht hc
   obtain ⟨rfl, _⟩ := hv2.sc_inv
   simp only [Array.length_toList] at k3
   have hcells : ((Array.range (n * i.size)).map fun k => (if n * i.size = 0 then (#[] : Array Value) else zv.cells)[k % (if n * i.size = 0 then (#[] : Array Value) else zv.cells).size]!).toList = (List.replicate n zv.cells.toList).flatten := by
    by_cases h0 : n = 0
    ·subst h0; simp
    ·have hne : ¬ (n * i.size = 0) := by rw [k1]; intro h; rcases Nat.mul_eq_zero.1 h with h | h <;> omega
     rw [if_neg hne, show n * i.size = n * zv.cells.size by rw [k1, k3]]
     exact range_zero (by omega) n
   have hall : ((Array.range (n * i.size)).map fun k => (if n * i.size = 0 then (#[] : Array Value) else zv.cells)[k % (if n * i.size = 0 then (#[] : Array Value) else zv.cells).size]!).toList.all zCM = true := by
    rw [hcells, List.all_eq_true]
    intro v hv
    obtain ⟨l1, h1, h2⟩ := List.mem_flatten.1 hv
    obtain ⟨_, rfl⟩ := List.mem_replicate.1 h1
    exact List.all_eq_true.1 ha v h2
   have hd : DVs H (Own' s) (List.replicate n (zv.cells.toList.map PV.sc)).flatten (List.replicate n zv.cells.toList).flatten := by
    have := dvs_scal (H := H) (X := Own' s) (l := (List.replicate n zv.cells.toList).flatten) (by rw [← hcells]; exact hall)
    rwa [List.map_flatten, List.map_replicate] at this
   obtain ⟨s1, s2⟩ := satV_new hs hd 0
   refine ⟨.slice (some ⟨H.next, 0, none⟩) n n, H.alloc (List.replicate n zv.cells.toList).flatten 0, ?_, s1, by rw [hs.next]; exact .ms, s2⟩
   have hcond : (Nat.ble n n && Nat.ble (i.bytes * n) 281474976710656 && Nat.ble n 281474976710656 && ((Array.range (n * i.size)).map fun k => (if n * i.size = 0 then (#[] : Array Value) else zv.cells)[k % (if n * i.size = 0 then (#[] : Array Value) else zv.cells).size]!).toList.all zCM) = true := by
    rw [hall, Nat.ble_eq_true_of_le (Nat.le_refl n), Nat.ble_eq_true_of_le (show i.bytes * n ≤ _ by rw [k2]; exact hn.1), Nat.ble_eq_true_of_le hn.2]; rfl
   have i1 : idxVal (.int .i64 (n : Int)) = some (n, (n : Int)) := rfl
   simp only [St.op, ho, e1, e2, St.makeSliceOp, hu, i1, hi, hzz]
   rw [hcond, hcells]
   rfl
def VSt.drop (s : VSt) (b : Nat) : VSt := { s with mem := fun k => if k = b then none else s.mem k }
theorem zAW {b : Nat} : (s.drop b).next = s.next := rfl
theorem mem_drop1 {b b' : Nat} {r : Option (List PV)} (h : b' ≠ b) (g : s.mem b' = r) : (s.drop b).mem b' = r := by show (if b' = b then _ else _) = _; rw [if_neg h]; exact g
theorem Ext0.drop {s0 s1 : VSt} {b : Nat} (h : Ext0 s0 s1) (hb : s0.next ≤ b) : Ext0 s0 (s1.drop b) :=
 ⟨h.next, fun b' hb' => by show (if b' = b then _ else _) = _; rw [if_neg (by omega)]; exact h.mem b' hb', h.maps, h.grow, h.fo⟩
theorem vsub_drop (s : VSt) (b : Nat) : VSub (s.drop b) s := ⟨rfl, fun k cs h => by
 have h : (if k = b then none else s.mem k) = some cs := h
 by_cases e : k = b
 ·rw [if_pos e] at h; cases h
 ·rw [if_neg e] at h; exact h, fun _ _ h => h, fun _ _ h => h, fun _ _ _ => rfl⟩
theorem dv_give {H : St} (hs : SatV s H) {b z n c : Nat} {rows : List (List PV)} (hm : s.mem b = some rows.flatten) (hr : ∀ r ∈ rows, r.length = z) (hn : n = rows.length) (hc : CapOk z n c) {v : Value} (hv : DV H (Own' s) (.ms b 0 n c) v) : DV H (Own' (s.drop b)) (.sl z rows) v := by
 cases hv with
 | ms =>
  obtain ⟨ct, g, fm, h1, h2, h3, h4⟩ := hs.mem b _ hm
  have hnot : ¬ Own' (s.drop b) (s.fo b) := by
   rintro ⟨b', cs, hcs, hf⟩
   have hcs : (if b' = b then none else s.mem b') = some cs := hcs
   by_cases e : b' = b
   ·rw [if_pos e] at hcs; cases hcs
   ·rw [if_neg e] at hcs; exact e (hs.inj _ _ _ _ hcs hm hf)
  have idx : ∀ (rows : List (List PV)), (∀ r ∈ rows, r.length = z) → ∀ (i j : Nat) (row : List PV) (x : PV), rows[i]? = some row → row[j]? = some x → rows.flatten[i * z + j]? = some x := by
   intro rows
   induction rows with
   | nil => intro _ i j row x h; simp at h
   | cons r rs ih =>
    intro hr i j row x h1 h2
    cases i with
    | zero =>
     simp at h1; subst h1
     rw [List.flatten_cons, Nat.zero_mul, Nat.zero_add, List.getElem?_append_left (List.getElem?_eq_some_iff.1 h2).1]; exact h2
    | succ i =>
     rw [List.getElem?_cons_succ] at h1
     have := ih (fun q hq => hr q (List.mem_cons_of_mem _ hq)) i j row x h1 h2
     have hl := hr r List.mem_cons_self
     rw [List.flatten_cons, List.getElem?_append_right (by rw [hl, Nat.add_mul]; omega), hl]
     rw [show (i + 1) * z + j - z = i * z + j by rw [Nat.add_mul]; omega]; exact this
  have hcell : ∀ k, H.cell? b k = ct.get k := fun k => by
   unfold St.cell?
   rw [h1]; dsimp only; rw [h2]; dsimp only
   rw [h3, Nat.beq_refl]; rfl
  refine .sl (u := fun i j => (ct.get (i * z + j)).getD undef) ⟨hn, hc⟩ (.inr ⟨ct, s.fo b, g, fm, h1, h2, h3, hnot⟩) ⟨hr, fun i j row x q1 q2 => ?_⟩ fun i j row x q1 q2 => ?_
  ·obtain ⟨u, e1, _⟩ := h4 _ _ (idx rows hr i j row x q1 q2)
   rw [hcell, show 0 + i * z + j = i * z + j by omega, e1]; rfl
  ·obtain ⟨u, e1, e2⟩ := h4 _ _ (idx rows hr i j row x q1 q2)
   show DV _ _ x ((ct.get (i * z + j)).getD undef)
   rw [e1]; exact e2.less hs.wf fun f k => (vsub_drop s b).own k
theorem zCN {b : Nat} {f : Nat} (h : Own' (s.drop b) f) : Own' s f := (vsub_drop s b).own h
theorem vgive {l : List Oper} {Q : VTm → VSt → Prop} {k b z n c : Nat} {rows : List (List PV)} (hk : t.m k = .ms b 0 n c) (hm : s.mem b = some rows.flatten) (hr : ∀ r ∈ rows, r.length = z) (hn : n = rows.length) (hc : CapOk z n c)
    (h : VSeq P ops l (t.set k (.sl z rows)) (s.drop b) Q) : VSeq P ops l t s Q := fun k0 hk0 H T hs ht => by
 have hs2 : SatV (s.drop b) H := satV_sub hs (vsub_drop s b)
 have ht2 : TmV H (Own' (s.drop b)) (t.set k (.sl z rows)) T := ⟨ht.1, fun j => by
  rw [VTm.set_m]
  by_cases e : j = k
  ·subst e
   rw [if_pos rfl]
   have := ht.2 j
   rw [hk] at this
   exact dv_give hs hm hr hn hc this
  ·rw [if_neg e]; exact (ht.2 j).less hs.wf fun f q => zCN q⟩
 have := h k0 hk0 hs2 ht2
 intro R a w μ ha hta hd hR
 exact this ha hta hd fun T' H' a' w' μ' ⟨t', s', q, hs', ht', hf'⟩ => hR T' H' a' w' μ' ⟨t', s', q, hs', ht',
  ⟨hf'.keep.weaken hs.wf fun f _ q => zCN q, hf'.next, fun f hlt ho => zCN (hf'.own f hlt ho)⟩⟩
theorem splice_mid (pre ps : List PV) : ∀ (mid post : List PV), mid.length = ps.length → splice (pre ++ (mid ++ post)) pre.length ps = pre ++ (ps ++ post) := by
 induction ps generalizing pre with
 | nil => intro mid post h; have : mid = [] := List.length_eq_zero_iff.1 h; subst this; rfl
 | cons p ps ih =>
  intro mid post h
  cases mid with
  | nil => simp at h
  | cons m mid =>
   simp only [List.length_cons, Nat.add_right_cancel_iff] at h
   simp only [splice]
   have e : (pre ++ (m :: mid ++ post)).set pre.length p = (pre ++ [p]) ++ (mid ++ post) := by
    rw [List.set_append_right _ _ (Nat.le_refl _), Nat.sub_self]; simp
   rw [e]
   have := ih (pre ++ [p]) mid post h
   rw [List.length_append] at this
   simp only [List.length_cons, List.length_nil] at this
   rw [this]; simp
def filled {α : Type} (f : α → List PV) (zc : List PV) (xs : List α) (n : Nat) : List PV := (xs.map f).flatten ++ (List.replicate (n - xs.length) zc).flatten
theorem filled_zero {α : Type} (f : α → List PV) (zc : List PV) (n : Nat) : filled f zc [] n = (List.replicate n zc).flatten := by simp [filled]
theorem filled_full {α : Type} {f : α → List PV} {zc : List PV} {xs : List α} {n : Nat} (h : n ≤ xs.length) : filled f zc xs n = (xs.map f).flatten := by
 unfold filled; rw [show n - xs.length = 0 by omega]; simp
theorem filled_len {α : Type} {f : α → List PV} {zc : List PV} {z : Nat} (hf : ∀ a, (f a).length = z) : ∀ (xs : List α), ((xs.map f).flatten).length = xs.length * z
 | [] => by simp
 | x :: xs => by rw [List.map_cons, List.flatten_cons, List.length_append, hf, filled_len (zc := zc) hf xs, List.length_cons, Nat.add_mul]; omega
theorem filled_total {α : Type} {f : α → List PV} {zc : List PV} {z n : Nat} (hf : ∀ a, (f a).length = z) (hz : zc.length = z) {xs : List α} (h : xs.length ≤ n) : (filled f zc xs n).length = n * z := by
 unfold filled
 rw [List.length_append, filled_len (zc := zc) hf]
 have : ((List.replicate (n - xs.length) zc).flatten).length = (n - xs.length) * z := by simp [hz]
 rw [this, ← Nat.add_mul]; congr 1; omega
theorem filled_step {α : Type} {f : α → List PV} {zc : List PV} {z n k : Nat} (hf : ∀ a, (f a).length = z) (hz : zc.length = z) {xs : List α} (h : xs.length < n) (hk : k = xs.length * z) (a : α) : splice (filled f zc xs n) k (f a) = filled f zc (xs ++ [a]) n := by
 subst hk
 unfold filled
 obtain ⟨m, hm⟩ : ∃ m, n - xs.length = m + 1 := ⟨n - xs.length - 1, by omega⟩
 rw [hm, List.replicate_succ, List.flatten_cons]
 have := splice_mid (xs.map f).flatten (f a) zc (List.replicate m zc).flatten (by rw [hz, hf])
 rw [filled_len (zc := zc) hf] at this
 rw [this, List.map_append, List.flatten_append]
 simp only [List.length_append, List.length_cons, List.length_nil, List.map_cons, List.map_nil, List.flatten_cons, List.flatten_nil, List.append_nil]
 rw [show n - (xs.length + (0 + 1)) = m by omega, List.append_assoc]
theorem o_mkI {ty z bytes : Nat} {m : Int} {l c : Operand} {zc : List Value} (ho : o.op = .makeSlice ty l c) (hk : mkOk P ty z bytes = true) (hz : mkZero P ty = some zc) (hl : t.ev l = some (.sc (.int .i64 m))) (hc : t.ev c = some (.sc (.int .i64 m))) (hm : 0 ≤ m)
    (hn : bytes * m.toNat ≤ 281474976710656 ∧ m.toNat ≤ 281474976710656) : OpV P s t o (.ms s.next 0 m.toNat m.toNat) (s.new (List.replicate m.toNat (zc.map PV.sc)).flatten) := by
 have e : ((m.toNat : Nat) : Int) = m := Int.toNat_of_nonneg hm
 exact o_mk ho hk hz (by rw [hl, e]) (by rw [hc, e]) hn
theorem vdN {l : List Oper} {Q : VTm → VSt → Prop} {s0 : VSt} {d n c : Nat} {cs : List PV} (hg : zCO ops t o = some true) (hop : OpV P s t o (.ms s.next 0 n c) (s.new cs)) (hd : o.dst = some d) (hn : Nat.blt d t.n = true) (hE : Ext0 s0 (s.new cs))
    (h : ∀ b, b = s.next → Ext0 s0 (s.new cs) → VSeq P ops l (t.set d (.ms b 0 n c)) (s.new cs) Q) : VSeq P ops (o :: l) t s Q := vd hg hop hd hn (h _ rfl hE)
theorem vdP {l : List Oper} {Q : VTm → VSt → Prop} {s0 : VSt} {d : Nat} {cs : List PV} (hg : zCO ops t o = some true) (hop : OpV P s t o (.pt s.next 0) (s.new cs)) (hd : o.dst = some d) (hn : Nat.blt d t.n = true) (hE : Ext0 s0 (s.new cs))
    (h : ∀ b, b = s.next → Ext0 s0 (s.new cs) → VSeq P ops l (t.set d (.pt b 0)) (s.new cs) Q) : VSeq P ops (o :: l) t s Q := vd hg hop hd hn (h _ rfl hE)
theorem zBN {b : Nat} {cs : List PV} (h : b = s.next) : (s.new cs).mem b = some cs := by subst h; exact mem_new0
end Go.AE
