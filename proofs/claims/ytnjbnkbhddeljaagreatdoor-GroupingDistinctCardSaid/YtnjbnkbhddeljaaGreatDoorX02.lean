/- A part of the proof: AeOpSound, AeAbs, AeEval, AeEvalAbs, AeSound, AeCodeSound, AeDraw1, AeDraw2, AeDraw3, AeDraw4, AeDraw5, AeDraw6, AeDraw7, AeT, AeV1, AeV2. -/
import Derived.Test.YtnjbnkbhddeljaaGreatDoorX01
import Derived.Orders
import Derived.LoopN
set_option linter.unusedVariables false
set_option maxRecDepth 100000
namespace Go.AE
open Go.RowKit (Below)
variable {μ : Mu} {H H' : St} {w : World} {P : Program}
def OpOk (P : Program) (s : Sem Next) (μ : Mu) (H : St) (w : World) (r : ARes) (H' : St) : Prop :=
 ∃ r' w' μ', s.run P w = .ok r' w' ∧ Step μ H w μ' H' w' ∧ NR w' μ' r r'
theorem ok_keep (hR : Rel μ H w) {s : Sem Value} {x : Option Value} {r : ARes} (h : keep H x = some (r, H')) (hs : ∀ v, x = some v → ∃ v', s.run P w = .ok v' w ∧ VR w μ v v') :
    OpOk P (do pure (.value (← s))) μ H w r H' := by
 cases x with
 | none => cases h
 | some v =>
  simp only [keep, Option.some.injEq, Prod.mk.injEq] at h
  obtain ⟨rfl, rfl⟩ := h
  obtain ⟨v', h1, h2⟩ := hs v rfl
  exact ⟨.value v', w, μ, by simp only [Sem.run_bind, h1, Result.andThen_ok, Sem.run_pure], .refl hR, h2⟩
theorem ok_both {s : Sem Value} {x : Option (Value × St)} {r : ARes} (h : both x = some (r, H')) (hs : ∀ v, x = some (v, H') → ∃ v' w' μ', s.run P w = .ok v' w' ∧ Step μ H w μ' H' w' ∧ VR w' μ' v v') :
    OpOk P (do pure (.value (← s))) μ H w r H' := by
 cases x with
 | none => cases h
 | some vh =>
  obtain ⟨v, h0⟩ := vh
  simp only [both, Option.some.injEq, Prod.mk.injEq] at h
  obtain ⟨rfl, rfl⟩ := h
  obtain ⟨v', w', μ', h1, h2, h3⟩ := hs v rfl
  exact ⟨.value v', w', μ', by simp only [Sem.run_bind, h1, Result.andThen_ok, Sem.run_pure], h2, h3⟩
theorem ok_done {s : Sem Unit} {x : Option St} {r : ARes} (h : done x = some (r, H')) (hs : x = some H' → ∃ w', s.run P w = .ok () w' ∧ Step μ H w μ H' w') :
    OpOk P (do s; pure .skip) μ H w r H' := by
 cases x with
 | none => cases h
 | some h0 =>
  simp only [done, Option.some.injEq, Prod.mk.injEq] at h
  obtain ⟨rfl, rfl⟩ := h
  obtain ⟨w', h1, h2⟩ := hs rfl
  exact ⟨.skip, w', μ, by simp only [Sem.run_bind, h1, Result.andThen_ok, Sem.run_pure], h2, rfl⟩
theorem both_some {x : Option (Value × St)} {r : ARes} (h : both x = some (r, H')) : ∃ v, x = some (v, H') ∧ r = .val v := by
 cases x with
 | none => cases h
 | some vh =>
  obtain ⟨v, h0⟩ := vh
  simp only [both, Option.some.injEq, Prod.mk.injEq] at h
  obtain ⟨rfl, rfl⟩ := h
  exact ⟨v, rfl, rfl⟩
theorem binVal_sound {op : BinOp} {t : TypeId} {ox oy : Operand} {x x' y y' v : Value} (hx : VR w μ x x') (hy : VR w μ y y') (h : binVal P op t ox oy x y = some v) :
    ∃ v', (do eqGuard op t ox oy x' y'; binOp op t x' y' : Sem Value).run P w = .ok v' w ∧ VR w μ v v' := by
 unfold binVal at h
 cases hs : (scal x && scal y) with
 | true =>
  rw [hs] at h; simp only [cond_true] at h
  simp only [Bool.and_eq_true] at hs
  have e1 := hx.scal_eq hs.1
  have e2 := hy.scal_eq hs.2
  subst e1; subst e2
  split at h
  ·rename_i v0 hv
   cases hs2 : scal v0 with
   | false => rw [hs2] at h; cases h
   | true =>
    rw [hs2] at h; simp only [cond_true, Option.some.injEq] at h; subst h
    exact ⟨v0, prun_run _ _ hv w, .scal hs2⟩
  ·cases h
 | false =>
  rw [hs] at h; simp only [cond_false] at h
  split at h
  ·simp only [Option.map_eq_some_iff] at h
   obtain ⟨b, hb, rfl⟩ := h
   exact ⟨_, (nilEq_sound hx hy hb ox oy).1, .scal rfl⟩
  ·simp only [Option.map_eq_some_iff] at h
   obtain ⟨b, hb, rfl⟩ := h
   exact ⟨_, (nilEq_sound hx hy hb ox oy).2, .scal rfl⟩
  ·cases h
theorem op_sound (hR : Rel μ H w) {t : Tm} {a : Act} (hT : TmR w μ t a.tmps) {o : Oper} {r : ARes} (h : H.op P t o = some (r, H')) (hF : Free μ H H') :
    OpOk P (execOp a.eval o) μ H w r H' := by
 obtain ⟨dst, op, type, pos, after, guard⟩ := o
 have ev1 : ∀ {x : Operand} {v : Value}, t.ev x = some v → VR w μ v (a.eval x) := fun h => ev_sound hT h
 cases op <;> simp only [St.op] at h <;> try (cases h; done)
 case move x =>
  cases hx : t.ev x with
  | none => rw [hx] at h; cases h
  | some v =>
   rw [hx] at h; simp only [keep, Option.some.injEq, Prod.mk.injEq] at h
   obtain ⟨rfl, rfl⟩ := h
   exact ⟨.value (a.eval x), w, μ, rfl, .refl hR, ev1 hx⟩
 case assign x =>
  cases hx : t.ev x with
  | none => rw [hx] at h; cases h
  | some v =>
   rw [hx] at h; simp only [keep, Option.some.injEq, Prod.mk.injEq] at h
   obtain ⟨rfl, rfl⟩ := h
   exact ⟨.value (a.eval x), w, μ, rfl, .refl hR, ev1 hx⟩
 case pick c x y =>
  split at h
  ·rename_i hc
   have hc' := (ev1 hc).scal_eq rfl
   cases hx : t.ev x with
   | none => rw [hx] at h; cases h
   | some v =>
    rw [hx] at h; simp only [keep, Option.some.injEq, Prod.mk.injEq] at h
    obtain ⟨rfl, rfl⟩ := h
    exact ⟨.value (a.eval x), w, μ, by simp [execOp, hc', asBool], .refl hR, ev1 hx⟩
  ·rename_i hc
   have hc' := (ev1 hc).scal_eq rfl
   cases hx : t.ev y with
   | none => rw [hx] at h; cases h
   | some v =>
    rw [hx] at h; simp only [keep, Option.some.injEq, Prod.mk.injEq] at h
    obtain ⟨rfl, rfl⟩ := h
    exact ⟨.value (a.eval y), w, μ, by simp [execOp, hc', asBool], .refl hR, ev1 hx⟩
  ·cases h
 case alloc e => exact ok_both h fun v hv => allocOp_sound hR hv hF
 case box e x =>
  split at h
  ·rename_i v hv
   exact ok_both h fun u hu => boxOp_sound hR (ev1 hv) (by simpa using hu) hF
  ·cases h
 case build ty ps =>
  split at h
  ·rename_i l hl
   refine ok_keep hR h fun u hu => ?_
   obtain ⟨v', h1, h2⟩ := build_sound (P := P) (evParts_sound hT hl) hu
   refine ⟨v', ?_, h2⟩
   have e : ∀ (f : Nat × Operand → Nat × Value), ps.map f = (ps.toList.map f).toArray := fun f => Array.ext' (by simp)
   rw [e]
   exact h1
  ·cases h
 case buildSlice ty n ps =>
  split at h
  ·rename_i l hl
   refine ok_both h fun u hu => ?_
   obtain ⟨v', w', μ', h1, h2, h3⟩ := buildSlice_sound (P := P) hR (evParts_sound hT hl) hu hF
   refine ⟨v', w', μ', ?_, h2, h3⟩
   have e : ∀ (f : Nat × Operand → Nat × Value), ps.map f = (ps.toList.map f).toArray := fun f => Array.ext' (by simp)
   rw [e]
   exact h1
  ·cases h
 case load ty x =>
  split at h
  ·rename_i v hv
   exact ok_keep hR h fun u hu => loadOp_sound hR (ev1 hv) hu
  ·cases h
 case store ty x y =>
  split at h
  ·rename_i v u hv hu
   exact ok_done h fun hh => storeOp_sound hR (ev1 hv) (ev1 hu) hh
  ·cases h
 case nilCheck x =>
  split at h
  ·rename_i v hv
   have hvr := ev1 hv
   unfold nilCheckVal at h
   split at h
   ·simp only [keep, Option.some.injEq, Prod.mk.injEq] at h
    obtain ⟨rfl, rfl⟩ := h
    obtain ⟨a', ha'⟩ := hvr.ptr_some
    refine ⟨.value (a.eval x), w, μ, ?_, .refl hR, hvr⟩
    simp only [execOp, ha', Sem.run_pure]
   ·rename_i fn f c
    cases hm : isMethod fn with
    | true => rw [hm] at h; cases h
    | false =>
     rw [hm] at h; simp only [cond_false, keep, Option.some.injEq, Prod.mk.injEq] at h
     obtain ⟨rfl, rfl⟩ := h
     obtain ⟨f', c', he, _, _⟩ := hvr.func_some
     refine ⟨.value (a.eval x), w, μ, ?_, .refl hR, hvr⟩
     cases fn <;> first | (simp only [execOp, he, Sem.run_pure]; done) | cases hm
   ·simp only [keep, Option.some.injEq, Prod.mk.injEq] at h
    obtain ⟨rfl, rfl⟩ := h
    obtain ⟨x', hx'⟩ := hvr.iface_some
    refine ⟨.value (a.eval x), w, μ, ?_, .refl hR, hvr⟩
    simp only [execOp, hx', Sem.run_pure]
   ·cases h
  ·cases h
 case binOp op ty x y yt =>
  split at h
  ·rename_i v u hv hu
   exact ok_keep hR h fun z hz => binVal_sound (ev1 hv) (ev1 hu) hz
  ·cases h
 case unOp op ty x =>
  split at h
  ·rename_i v hv
   refine ok_keep hR h fun z hz => ?_
   unfold unVal at hz
   cases hs : scal v with
   | false => rw [hs] at hz; cases hz
   | true =>
    rw [hs] at hz; simp only [cond_true] at hz
    have he := (ev1 hv).scal_eq hs
    split at hz
    ·rename_i v0 hv0
     cases hs2 : scal v0 with
     | false => rw [hs2] at hz; cases hz
     | true =>
      rw [hs2] at hz; simp only [cond_true, Option.some.injEq] at hz; subst hz
      exact ⟨v0, by rw [he]; exact prun_run _ _ hv0 w, .scal hs2⟩
    ·cases hz
  ·cases h
 case convert src dst x =>
  split at h
  ·rename_i v hv
   exact ok_both h fun u hu => convOp_sound hR (ev1 hv) hu hF
  ·cases h
 case makeInterface ty x =>
  split at h
  ·rename_i v hv
   refine ok_keep hR h fun z hz => ?_
   unfold ifaceVal at hz
   split at hz
   ·cases hz
   ·rename_i d hd hni
    simp only [Option.some.injEq] at hz; subst hz
    refine ⟨.iface ty (a.eval x), ?_, .iface (ev1 hv)⟩
    simp only [Instr.makeInterface, Sem.run_bind, run_underlying hni, Result.andThen_ok]
    cases d <;> first | rfl | exact absurd rfl (hd _)
   ·cases hz
  ·cases h
 case makeFunc fn f c =>
  split at h
  ·rename_i l1 l2 h1 h2
   simp only [Option.some.injEq, Prod.mk.injEq] at h
   obtain ⟨rfl, rfl⟩ := h
   refine ⟨.value (.func fn (f.map a.eval) (c.map a.eval)), w, μ, rfl, .refl hR, .func ?_ ?_⟩
   ·simpa using evs_sound hT h1
   ·simpa using evs_sound hT h2
  ·cases h
 case makeMap ty r =>
  cases r with
  | some r => cases h
  | none =>
   simp only [Option.some.injEq, Prod.mk.injEq] at h
   obtain ⟨rfl, rfl⟩ := h
   have hμ := hF _ (Nat.le_refl _) (by show H.next < H.next + 1; omega)
   exact ⟨.value (.map (some w.heap.size)), _, _, rfl, newMap_step hR hμ, .map (Mu.put_same _ _ _)⟩
 case makeSlice ty l c =>
  split at h
  ·rename_i v u hv hu
   exact ok_both h fun z hz => makeSlice_sound hR (ev1 hv) (ev1 hu) hz hF
  ·cases h
 case slice ty x lo hi mx =>
  split at h
  ·rename_i v l1 l2 l3 hv h1 h2 h3
   exact ok_keep hR h fun z hz => slice_sound (ev1 hv) (evOpt_sound hT h1) (evOpt_sound hT h2) (evOpt_sound hT h3) hz
  ·cases h
 case fieldAddr s x f =>
  split at h
  ·rename_i v hv
   exact ok_keep hR h fun z hz => fieldAddr_sound (ev1 hv) hz
  ·cases h
 case field s x f =>
  split at h
  ·rename_i v hv
   exact ok_keep hR h fun z hz => field_sound (ev1 hv) hz
  ·cases h
 case indexAddr ty x ix =>
  split at h
  ·rename_i v u hv hu
   exact ok_keep hR h fun z hz => indexAddr_sound (ev1 hv) (ev1 hu) hz
  ·cases h
 case index ty x ix =>
  split at h
  ·rename_i v u hv hu
   exact ok_keep hR h fun z hz => index_sound (ev1 hv) (ev1 hu) hz
  ·cases h
 case lookup ty x ix ok =>
  split at h
  ·rename_i v u hv hu
   exact ok_keep hR h fun z hz => lookup_sound hR (ev1 hv) (ev1 hu) hz
  ·cases h
 case mapUpdate ty m k x =>
  split at h
  ·rename_i v u z hv hu hz
   exact ok_done h fun hh => update_sound hR (ev1 hv) (ev1 hu) (ev1 hz) hh
  ·cases h
 case extract x ix =>
  split at h
  ·rename_i v hv
   exact ok_keep hR h fun z hz => extract_sound (ev1 hv) hz
  ·cases h
 case call c =>
  split at h
  case h_2 => cases h
  rename_i args hargs
  have hvs := evs_sound hT hargs
  have hmap : c.args.toList.map a.eval = (c.args.map a.eval).toList := by simp
  rw [hmap] at hvs
  split at h
  ·rename_i b hb
   obtain ⟨v, hx, rfl⟩ := both_some h
   obtain ⟨v', w', μ', h1, h2, h3⟩ := builtinOp_sound (P := P) hR hvs hx hF
   refine ⟨.value v', w', μ', ?_, h2, h3⟩
   simp only [execOp, resolve, hb, Sem.run_bind, Sem.run_pure, Result.andThen_ok, invoke]
   exact h1
  ·rename_i f hf
   split at h
   ·rename_i g first captured hg
    obtain ⟨first', captured', he, hf1, hf2⟩ := (ev1 hg).func_some
    split at h
    ·rename_i r0 hr0
     simp only [Option.some.injEq, Prod.mk.injEq] at h
     obtain ⟨rfl, rfl⟩ := h
     obtain ⟨r', h1, h2⟩ := callRes_sound (P := P) (w := w) (μ := μ) (args' := first' ++ c.args.map a.eval ++ captured') (by
      rw [Array.toList_append, Array.toList_append]; exact VRs.append hf2 (VRs.append hvs hf1)) hr0
     refine ⟨r', w, μ, ?_, .refl hR, h2⟩
     simp only [execOp, resolve, hf, he, Deferred.ofValue, Sem.run_bind, Sem.run_pure, Result.andThen_ok, invoke]
     exact h1
    ·cases h
   ·cases h
  ·cases h
end Go.AE
namespace Go.AE
variable {H H' H₁ H₂ : St} {P : Program}
structure WF (H : St) : Prop where
 obs : ∀ b o, H.obs.get b = some o → b < H.next ∧ ∀ c f g, o = .rw c f g → f ≤ b
 fams : ∀ f fm, H.fams.get f = some fm → f < H.next
 gen : ∀ b c f g, H.obs.get b = some (.rw c f g) → ∃ fm, H.fams.get f = some fm ∧ g ≤ fm.gen
structure Abs0 (H H' : St) : Prop where
 wf : WF H'
 nx : H.next ≤ H'.next
 low : H'.low ≤ H.low
 frame : ∀ c, c ≤ H.next → c ≤ H'.low → (∀ b, b < c → H'.obs.get b = H.obs.get b) ∧ (∀ f, f < c → H'.fams.get f = H.fams.get f) ∧ ∀ b x f g, H'.obs.get b = some (.rw x f g) → f < c → H.obs.get b = some (.rw x f g)
 ro : ∀ b c, H'.obs.get b = some (.ro c) → H.obs.get b = some (.ro c)
def Abs (H H' : St) : Prop := WF H → Abs0 H H'
theorem Abs.refl (H : St) : Abs H H := fun h => ⟨h, Nat.le_refl _, Nat.le_refl _, fun _ _ _ => ⟨fun _ _ => rfl, fun _ _ => rfl, fun _ _ _ _ h _ => h⟩, fun _ _ h => h⟩
theorem Abs.trans (h : Abs H H₁) (k : Abs H₁ H₂) : Abs H H₂ := fun hw => by
 have a := h hw
 have b := k a.wf
 refine ⟨b.wf, Nat.le_trans a.nx b.nx, Nat.le_trans b.low a.low, fun c h1 h2 => ?_, fun x c h => a.ro x c (b.ro x c h)⟩
 obtain ⟨p1, p2, p3⟩ := a.frame c h1 (Nat.le_trans h2 b.low)
 obtain ⟨q1, q2, q3⟩ := b.frame c (Nat.le_trans h1 a.nx) h2
 exact ⟨fun x hx => (q1 x hx).trans (p1 x hx), fun x hx => (q2 x hx).trans (p2 x hx), fun b x f g h hf => p3 b x f g (q3 b x f g h hf) hf⟩
theorem abs_alloc (H : St) (vs : List Value) (esz : Nat) : Abs H (H.alloc vs esz) := fun hw => by
 have eo : (H.alloc vs esz).obs = H.obs.set H.next (.rw (Tr.setList .nil 0 vs) H.next 0) := rfl
 have ef : (H.alloc vs esz).fams = H.fams.set H.next ⟨0, vs.length, esz⟩ := rfl
 have en : (H.alloc vs esz).next = H.next + 1 := rfl
 have el : (H.alloc vs esz).low = H.low := rfl
 generalize H.alloc vs esz = K at *
 refine ⟨⟨fun b o h => ?_, fun f fm h => ?_, fun b c f g h => ?_⟩, by omega, by omega, fun c h1 _ => ⟨fun b hb => ?_, fun f hf => ?_, fun b x f g h hf => ?_⟩, fun b c h => ?_⟩
 ·rw [eo, Tr.get_set] at h
  rw [en]
  by_cases e : b = H.next
  ·rw [if_pos e] at h; cases h; exact ⟨by omega, fun _ _ _ h' => by cases h'; omega⟩
  ·rw [if_neg e] at h; have := hw.obs b o h; exact ⟨by omega, this.2⟩
 ·rw [ef, Tr.get_set] at h
  rw [en]
  by_cases e : f = H.next
  ·omega
  ·rw [if_neg e] at h; have := hw.fams f fm h; omega
 ·rw [eo, Tr.get_set] at h
  rw [ef]
  by_cases e : b = H.next
  ·rw [if_pos e] at h; cases h; exact ⟨_, Tr.get_set_same _ _ _, Nat.zero_le _⟩
  ·rw [if_neg e] at h
   have hb := hw.obs b _ h
   have := hb.2 c f g rfl
   rw [Tr.get_set_ne _ _ (by omega)]
   exact hw.gen b c f g h
 ·rw [eo]; exact Tr.get_set_ne _ _ (by omega)
 ·rw [ef]; exact Tr.get_set_ne _ _ (by omega)
 ·rw [eo, Tr.get_set] at h
  by_cases e : b = H.next
  ·rw [if_pos e] at h; cases h; omega
  ·rw [if_neg e] at h; exact h
 ·rw [eo, Tr.get_set] at h
  by_cases e : b = H.next
  ·rw [if_pos e] at h; cases h
  ·rw [if_neg e] at h; exact h
theorem abs_newMap (H : St) : Abs H H.newMap := fun hw => by
 have eo : H.newMap.obs = H.obs.set H.next (.map []) := rfl
 have ef : H.newMap.fams = H.fams := rfl
 have en : H.newMap.next = H.next + 1 := rfl
 have el : H.newMap.low = H.low := rfl
 generalize H.newMap = K at *
 refine ⟨⟨fun b o h => ?_, fun f fm h => ?_, fun b c f g h => ?_⟩, by omega, by omega, fun c h1 _ => ⟨fun b hb => ?_, fun f hf => by rw [ef], fun b x f g h hf => ?_⟩, fun b c h => ?_⟩
 ·rw [eo, Tr.get_set] at h
  rw [en]
  by_cases e : b = H.next
  ·rw [if_pos e] at h; cases h; exact ⟨by omega, fun _ _ _ h' => by cases h'⟩
  ·rw [if_neg e] at h; have := hw.obs b o h; exact ⟨by omega, this.2⟩
 ·rw [ef] at h; rw [en]
  have := hw.fams f fm h; omega
 ·rw [eo, Tr.get_set] at h
  rw [ef]
  by_cases e : b = H.next
  ·rw [if_pos e] at h; cases h
  ·rw [if_neg e] at h; exact hw.gen b c f g h
 ·rw [eo]; exact Tr.get_set_ne _ _ (by omega)
 ·rw [eo, Tr.get_set] at h
  by_cases e : b = H.next
  ·rw [if_pos e] at h; cases h
  ·rw [if_neg e] at h; exact h
 ·rw [eo, Tr.get_set] at h
  by_cases e : b = H.next
  ·rw [if_pos e] at h; cases h
  ·rw [if_neg e] at h; exact h
theorem abs_store {b off : Nat} {v : Value} (h : H.store b off v = some H') : Abs H H' := fun hw => by
 obtain ⟨_, c, f, g, fm, u, hob, hfm, hgen, _, rfl⟩ := St.store_spec h
 have hfb := (hw.obs b _ hob).2 c f g rfl
 clear h
 generalize hK : ({ next := H.next, obs := H.obs.set b (.rw (c.set off v) f (g + 1)), fams := H.fams.set f ⟨g + 1, fm.ext, fm.esz⟩, low := min H.low f } : St) = K
 have eo : K.obs = H.obs.set b (.rw (c.set off v) f (g + 1)) := by rw [← hK]
 have ef : K.fams = H.fams.set f ⟨g + 1, fm.ext, fm.esz⟩ := by rw [← hK]
 have en : K.next = H.next := by rw [← hK]
 have el : K.low = min H.low f := by rw [← hK]
 refine ⟨⟨fun b' o h => ?_, fun f' fm' h => ?_, fun b' c' f' g' h => ?_⟩, by omega, by rw [el]; exact Nat.min_le_left _ _, fun k h1 h2 => ?_, fun b' c' h => ?_⟩
 ·rw [eo, Tr.get_set] at h
  rw [en]
  by_cases e : b' = b
  ·rw [if_pos e] at h; cases h; rw [e]; exact ⟨(hw.obs b _ hob).1, fun _ _ _ h' => by cases h'; exact hfb⟩
  ·rw [if_neg e] at h; exact hw.obs b' o h
 ·rw [ef, Tr.get_set] at h
  rw [en]
  by_cases e : f' = f
  ·rw [e]; exact hw.fams f _ hfm
  ·rw [if_neg e] at h; exact hw.fams f' _ h
 ·rw [eo, Tr.get_set] at h
  rw [ef]
  by_cases e : b' = b
  ·rw [if_pos e] at h; cases h; exact ⟨_, Tr.get_set_same _ _ _, Nat.le_refl _⟩
  ·rw [if_neg e] at h
   obtain ⟨fm', q1, q2⟩ := hw.gen b' c' f' g' h
   by_cases ee : f' = f
   ·rw [ee] at q1 ⊢; rw [hfm] at q1; cases q1
    exact ⟨_, Tr.get_set_same _ _ _, by show g' ≤ g + 1; omega⟩
   ·rw [Tr.get_set_ne _ _ ee]; exact ⟨fm', q1, q2⟩
 ·rw [el] at h2
  have hkf : k ≤ f := Nat.le_trans h2 (Nat.min_le_right _ _)
  refine ⟨fun b' hb => by rw [eo]; exact Tr.get_set_ne _ _ (by omega), fun f' hf => by rw [ef]; exact Tr.get_set_ne _ _ (by omega), fun b' x f' g' h hf => ?_⟩
  rw [eo, Tr.get_set] at h
  by_cases e : b' = b
  ·rw [if_pos e] at h; cases h; omega
  ·rw [if_neg e] at h; exact h
 ·rw [eo, Tr.get_set] at h
  by_cases e : b' = b
  ·rw [if_pos e] at h; cases h
  ·rw [if_neg e] at h; exact h
theorem abs_storeL {b : Nat} : ∀ {vs : List Value} {off : Nat} {H H' : St}, H.storeL b off vs = some H' → Abs H H'
 | [], _, H, H', h => by simp only [St.storeL, Option.some.injEq] at h; subst h; exact Abs.refl _
 | v :: vs, off, H, H', h => by
  simp only [St.storeL] at h
  split at h
  ·rename_i H1 h1; exact (abs_store h1).trans (abs_storeL h)
  ·cases h
theorem abs_version {b off len esz : Nat} {new : List Value} (h : H.version b off len esz new = some H') : Abs H H' := fun hw => by
 obtain ⟨c, f, fm, t, hrw, _, _, _, _, rfl⟩ := St.version_spec h
 obtain ⟨hob, hfm⟩ := rwb_inv hrw
 have hb0 := hw.obs b _ hob
 have hfb := hb0.2 c f fm.gen rfl
 clear h
 generalize hK : ({ next := H.next + 1, obs := H.obs.set H.next (.rw (t.setList (off + len) new) f fm.gen), fams := H.fams.set f ⟨fm.gen, off + len + new.length, esz⟩, low := min H.low f } : St) = K
 have eo : K.obs = H.obs.set H.next (.rw (t.setList (off + len) new) f fm.gen) := by rw [← hK]
 have ef : K.fams = H.fams.set f ⟨fm.gen, off + len + new.length, esz⟩ := by rw [← hK]
 have en : K.next = H.next + 1 := by rw [← hK]
 have el : K.low = min H.low f := by rw [← hK]
 refine ⟨⟨fun b' o h => ?_, fun f' fm' h => ?_, fun b' c' f' g' h => ?_⟩, by omega, by rw [el]; exact Nat.min_le_left _ _, fun k h1 h2 => ?_, fun b' c' h => ?_⟩
 ·rw [eo, Tr.get_set] at h
  rw [en]
  by_cases e : b' = H.next
  ·rw [if_pos e] at h; cases h; exact ⟨by omega, fun _ _ _ h' => by cases h'; omega⟩
  ·rw [if_neg e] at h; have := hw.obs b' o h; exact ⟨by omega, this.2⟩
 ·rw [ef, Tr.get_set] at h
  rw [en]
  by_cases e : f' = f
  ·omega
  ·rw [if_neg e] at h; have := hw.fams f' _ h; omega
 ·rw [eo, Tr.get_set] at h
  rw [ef]
  by_cases e : b' = H.next
  ·rw [if_pos e] at h; cases h; exact ⟨_, Tr.get_set_same _ _ _, Nat.le_refl _⟩
  ·rw [if_neg e] at h
   obtain ⟨fm', q1, q2⟩ := hw.gen b' c' f' g' h
   by_cases ee : f' = f
   ·rw [ee] at q1 ⊢; rw [hfm] at q1; cases q1
    exact ⟨_, Tr.get_set_same _ _ _, q2⟩
   ·rw [Tr.get_set_ne _ _ ee]; exact ⟨fm', q1, q2⟩
 ·rw [el] at h2
  have hkf : k ≤ f := Nat.le_trans h2 (Nat.min_le_right _ _)
  refine ⟨fun b' hb => by rw [eo]; exact Tr.get_set_ne _ _ (by omega), fun f' hf => by rw [ef]; exact Tr.get_set_ne _ _ (by omega), fun b' x f' g' h hf => ?_⟩
  rw [eo, Tr.get_set] at h
  by_cases e : b' = H.next
  ·rw [if_pos e] at h; cases h; omega
  ·rw [if_neg e] at h; exact h
 ·rw [eo, Tr.get_set] at h
  by_cases e : b' = H.next
  ·rw [if_pos e] at h; cases h
  ·rw [if_neg e] at h; exact h
theorem abs_setMap {b : Nat} {es es2 : List (Value × Value)} (hm : H.map? b = some es) : Abs H (H.setMap b es2) := fun hw => by
 have hob : H.obs.get b = some (.map es) := by
  unfold St.map? at hm
  split at hm
  ·rename_i h; simp only [Option.some.injEq] at hm; subst hm; exact h
  ·cases hm
 have eo : (H.setMap b es2).obs = H.obs.set b (.map es2) := rfl
 have ef : (H.setMap b es2).fams = H.fams := rfl
 have en : (H.setMap b es2).next = H.next := rfl
 have el : (H.setMap b es2).low = min H.low b := low_min _ _
 generalize H.setMap b es2 = K at *
 refine ⟨⟨fun b' o h => ?_, fun f' fm' h => ?_, fun b' c' f' g' h => ?_⟩, by omega, by rw [el]; exact Nat.min_le_left _ _, fun k h1 h2 => ?_, fun b' c' h => ?_⟩
 ·rw [eo, Tr.get_set] at h
  rw [en]
  by_cases e : b' = b
  ·rw [if_pos e] at h; cases h; rw [e]; exact ⟨(hw.obs b _ hob).1, fun _ _ _ h' => by cases h'⟩
  ·rw [if_neg e] at h; exact hw.obs b' o h
 ·rw [ef] at h; rw [en]; exact hw.fams f' fm' h
 ·rw [eo, Tr.get_set] at h
  rw [ef]
  by_cases e : b' = b
  ·rw [if_pos e] at h; cases h
  ·rw [if_neg e] at h; exact hw.gen b' c' f' g' h
 ·rw [el] at h2
  have hkf : k ≤ b := Nat.le_trans h2 (Nat.min_le_right _ _)
  refine ⟨fun b' hb => by rw [eo]; exact Tr.get_set_ne _ _ (by omega), fun f' hf => by rw [ef], fun b' x f' g' h hf => ?_⟩
  rw [eo, Tr.get_set] at h
  by_cases e : b' = b
  ·rw [if_pos e] at h; cases h
  ·rw [if_neg e] at h; exact h
 ·rw [eo, Tr.get_set] at h
  by_cases e : b' = b
  ·rw [if_pos e] at h; cases h
  ·rw [if_neg e] at h; exact h
theorem zBS {α : Type} {b : Bool} {x : Option α} {y : α} (h : cond b x none = some y) : b = true ∧ x = some y := by
 cases b with
 | true => exact ⟨rfl, h⟩
 | false => cases h
theorem zDY {α : Type} {b : Bool} {x y : Option α} {z : α} (h : cond b x y = some z) : x = some z ∨ y = some z := by
 cases b with
 | true => exact .inl h
 | false => exact .inr h
theorem abs_newRow {c : List Value} {s n : Nat} {v : Value} (h : H.newRow c s n = (v, H')) : Abs H H' := by
 rw [← show (H.newRow c s n).2 = H' from by rw [h]]; exact abs_alloc _ _ _
theorem abs_ptr {c : List Value} {v : Value} (h : H.ptr c = (v, H')) : Abs H H' := by
 rw [← show (H.ptr c).2 = H' from by rw [h]]; exact abs_alloc _ _ _
theorem abs_same {α : Type} {x v : α} (h : some (x, H) = some (v, H')) : Abs H H' := by
 simp only [Option.some.injEq, Prod.mk.injEq] at h; obtain ⟨_, rfl⟩ := h; exact Abs.refl _
theorem abs_app {t0 t1 : TypeId} {s x v : Value} (h : H.app P t0 t1 s x = some (v, H')) : Abs H H' := by
 unfold St.app at h
 split at h
 case h_2 => cases h
 replace h := (zBS h).2
 split at h
 case h_2 => cases h
 split at h
 case h_2 => cases h
 split at h
 case h_2 => cases h
 replace h := (zBS h).2
 split at h
 ·replace h := (zBS h).2
  rcases zDY h with h | h
  ·exact abs_same h
  ·replace h := (zBS h).2
   simp only [Option.some.injEq] at h
   exact abs_newRow h
 ·split at h
  ·cases h
  rcases zDY h with h | h
  ·cases h
  rcases zDY h with h | h
  ·replace h := (zBS h).2
   rcases zDY h with h | h
   ·exact abs_same h
   ·replace h := (zBS h).2
    simp only [Option.map_eq_some_iff, Prod.mk.injEq] at h
    obtain ⟨H1, hv, _, rfl⟩ := h
    exact abs_version hv
  ·rcases zDY h with h | h
   ·simp only [Option.map_eq_some_iff, Prod.mk.injEq] at h
    obtain ⟨H1, hv, _, rfl⟩ := h
    exact abs_storeL hv
   ·replace h := (zBS h).2
    simp only [Option.map_eq_some_iff] at h
    obtain ⟨old, _, hh⟩ := h
    exact abs_newRow hh
 ·cases h
theorem zCX {x : Option Value} {r : ARes} (h : keep H x = some (r, H')) : Abs H H' := by
 cases x with
 | none => cases h
 | some v => simp only [keep, Option.some.injEq, Prod.mk.injEq] at h; obtain ⟨_, rfl⟩ := h; exact Abs.refl _
theorem done_some {x : Option St} {r : ARes} (h : done x = some (r, H')) : x = some H' := by
 cases x with
 | none => cases h
 | some v => simp only [done, Option.some.injEq, Prod.mk.injEq] at h; obtain ⟨_, rfl⟩ := h; rfl
theorem op_abs {t : Tm} {o : Oper} {r : ARes} (h : H.op P t o = some (r, H')) : Abs H H' := by
 obtain ⟨dst, op, type, pos, after, guard⟩ := o
 cases op <;> simp only [St.op] at h <;> try (cases h; done)
 case move x => exact zCX h
 case assign x => exact zCX h
 case pick c x y => split at h <;> first | exact zCX h | cases h
 case alloc e =>
  obtain ⟨v, h, _⟩ := both_some h
  unfold St.allocOp at h
  split at h
  case h_2 => cases h
  split at h
  case h_2 => cases h
  have := (zBS h).2
  simp only [Option.some.injEq] at this
  exact abs_ptr this
 case box e x =>
  split at h
  ·obtain ⟨v, h, _⟩ := both_some h
   simp only [Option.some.injEq] at h
   exact abs_ptr h
  ·cases h
 case build ty ps => split at h <;> first | exact zCX h | cases h
 case buildSlice ty n ps =>
  split at h
  case h_2 => cases h
  obtain ⟨v, h, _⟩ := both_some h
  unfold St.buildSliceOp at h
  split at h
  case h_2 => cases h
  split at h
  case h_2 => cases h
  split at h
  case h_2 => cases h
  simp only at h
  have := (zBS h).2
  simp only [Option.map_eq_some_iff, Prod.mk.injEq] at this
  obtain ⟨r0, _, _, rfl⟩ := this
  exact abs_alloc _ _ _
 case load ty x => split at h <;> first | exact zCX h | cases h
 case store ty x y =>
  split at h
  case h_2 => cases h
  have h := done_some h
  unfold St.storeOp at h
  split at h
  case h_2 => cases h
  split at h
  case h_2 => cases h
  exact abs_storeL (zBS h).2
 case nilCheck x => split at h <;> first | exact zCX h | cases h
 case binOp op ty x y yt => split at h <;> first | exact zCX h | cases h
 case unOp op ty x => split at h <;> first | exact zCX h | cases h
 case convert src dst x =>
  split at h
  case h_2 => cases h
  obtain ⟨v, h, _⟩ := both_some h
  unfold St.convOp at h
  split at h
  ·split at h
   ·simp only [Option.some.injEq, Prod.mk.injEq] at h; obtain ⟨_, rfl⟩ := h; exact abs_alloc _ _ _
   ·cases h
  ·split at h
   ·rcases zDY h with h | h
    ·exact abs_same h
    ·split at h
     ·exact abs_same h
     ·split at h
      case h_2 => cases h
      split at h
      case h_2 => cases h
      simp only [Option.map_eq_some_iff, Prod.mk.injEq] at h; obtain ⟨_, _, _, rfl⟩ := h; exact Abs.refl _
   ·cases h
  ·replace h := (zBS h).2
   split at h
   ·replace h := (zBS h).2
    simp only [Option.some.injEq, Prod.mk.injEq] at h; obtain ⟨_, rfl⟩ := h; exact Abs.refl _
   ·cases h
 case makeInterface ty x => split at h <;> first | exact zCX h | cases h
 case makeFunc fn f c =>
  split at h
  ·simp only [Option.some.injEq, Prod.mk.injEq] at h; obtain ⟨_, rfl⟩ := h; exact Abs.refl _
  ·cases h
 case makeMap ty r =>
  cases r with
  | some r => cases h
  | none => simp only [Option.some.injEq, Prod.mk.injEq] at h; obtain ⟨_, rfl⟩ := h; exact abs_newMap _
 case makeSlice ty l c =>
  split at h
  case h_2 => cases h
  obtain ⟨v, h, _⟩ := both_some h
  unfold St.makeSliceOp at h
  split at h
  case h_2 => cases h
  split at h
  case h_2 => cases h
  split at h
  case h_2 => cases h
  simp only at h
  have := (zBS h).2
  simp only [Option.some.injEq, Prod.mk.injEq] at this
  obtain ⟨_, rfl⟩ := this
  exact abs_alloc _ _ _
 case slice ty x lo hi mx => split at h <;> first | exact zCX h | cases h
 case fieldAddr s x f => split at h <;> first | exact zCX h | cases h
 case field s x f => split at h <;> first | exact zCX h | cases h
 case indexAddr ty x ix => split at h <;> first | exact zCX h | cases h
 case index ty x ix => split at h <;> first | exact zCX h | cases h
 case lookup ty x ix ok => split at h <;> first | exact zCX h | cases h
 case mapUpdate ty m k x =>
  split at h
  case h_2 => cases h
  have h := done_some h
  unfold St.updateOp at h
  split at h
  case h_2 => cases h
  split at h
  case h_2 => cases h
  rename_i hm
  replace h := (zBS h).2
  split at h
  ·simp only [Option.some.injEq] at h; subst h; exact abs_setMap hm
  ·simp only [Option.some.injEq] at h; subst h; exact abs_setMap hm
  ·cases h
 case extract x ix => split at h <;> first | exact zCX h | cases h
 case call c =>
  split at h
  case h_2 => cases h
  split at h
  ·obtain ⟨v, h, _⟩ := both_some h
   unfold St.builtinOp at h
   split at h
   ·exact abs_app h
   ·simp only [Option.map_eq_some_iff, Prod.mk.injEq] at h; obtain ⟨_, _, _, rfl⟩ := h; exact Abs.refl _
   ·simp only [Option.map_eq_some_iff, Prod.mk.injEq] at h; obtain ⟨_, _, _, rfl⟩ := h; exact Abs.refl _
   ·unfold St.copyOp at h
    split at h
    case h_2 => cases h
    split at h
    case h_2 => cases h
    simp only at h
    split at h
    case h_2 => cases h
    rcases zDY h with h | h
    ·exact abs_same (zBS h).2
    ·split at h
     case h_2 => cases h
     split at h
     case h_2 => cases h
     simp only [Option.map_eq_some_iff, Prod.mk.injEq] at h
     obtain ⟨H1, hs, _, rfl⟩ := h
     exact abs_storeL hs
   ·unfold St.clearOp at h
    split at h
    case h_2 => cases h
    split at h
    case h_2 => cases h
    split at h
    case h_2 => cases h
    rcases zDY h with h | h
    ·simp only [Option.some.injEq, Prod.mk.injEq] at h; obtain ⟨_, rfl⟩ := h; exact Abs.refl _
    ·replace h := (zBS h).2
     split at h
     case h_2 => cases h
     split at h
     case h_2 => cases h
     simp only [Option.map_eq_some_iff, Prod.mk.injEq] at h
     obtain ⟨H1, hs, _, rfl⟩ := h
     exact abs_storeL hs
   ·replace h := (zBS h).2
    split at h
    ·replace h := (zBS h).2
     simp only [Option.some.injEq, Prod.mk.injEq] at h; obtain ⟨_, rfl⟩ := h; exact Abs.refl _
    ·cases h
  ·split at h
   ·split at h
    ·simp only [Option.some.injEq, Prod.mk.injEq] at h; obtain ⟨_, rfl⟩ := h; exact Abs.refl _
    ·cases h
   ·cases h
  ·cases h
end Go.AE
namespace Go.AE
inductive Ex where
 | normal
 | exit (id : Nat)
 | ret
structure Ev where
 code : Code → Tm → St → Option (Ex × Tm × St)
 call : FuncId → List Value → St → Option (Value × St)
def Tm.put (t : Tm) (dst : Option Nat) (v : Value) : Option Tm :=
 match dst with
 | none => some t
 | some d => cond (Nat.blt d t.n) (some ⟨t.n, t.m.set d v⟩) none
def zCA (ops : Array Oper) (t : Tm) (o : Oper) : Bool :=
 match o.guard with
 | none => true
 | some (j, want) =>
  match (ops[j]?).bind (·.dst) with
  | some d => match t.m.get d with | some (.bool b) => b == want | _ => false
  | none => false
def zDA (E : Ev) (P : Program) (t : Tm) (H : St) (o : Oper) : Option (Value × St) :=
 match H.op P t o with
 | some (.val v, H') => some (v, H')
 | some (.enter f args, H') => E.call f args H'
 | none => none
def evOps (E : Ev) (P : Program) (ops : Array Oper) : List Oper → Tm → St → Option (Tm × St)
 | [], t, H => some (t, H)
 | o :: rest, t, H =>
  cond (zCA ops t o)
   (match zDA E P t H o with
   | some (v, H') =>
    match t.put o.dst v with
    | some t' => evOps E P ops rest t' H'
    | none => none
   | none => none)
   (match t.put o.dst undef with
   | some t' => evOps E P ops rest t' H
   | none => none)
def restrict (bj : Nat) : List (Nat × St) → Option (Option St)
 | [] => some none
 | (i, Hi) :: rest => cond (bj.testBit i) (restrict bj rest) (cond (rest.all fun x => !bj.testBit x.1) (some (some Hi)) none)
def putO {α : Type} (i : Nat) (x : Option α) (t : Tr α) : Tr α := match x with | some x => t.set i x | none => t
def copyR (H1 : St) : Nat → Nat → Tr Ob → Tr Fam → Tr Ob × Tr Fam
 | 0, _, o, f => (o, f)
 | n + 1, i, o, f =>
  copyR H1 n (i + 1) (putO i (H1.obs.get i) o) (putO i (H1.fams.get i) f)
def merge (cur H1 : St) : St :=
 match copyR H1 (H1.next - cur.next) cur.next cur.obs cur.fams with
 | (o, f) => { next := H1.next, obs := o, fams := f, low := cur.low }
def opTmps (ops : Array Oper) (o : Oper) : List Nat := o.looksAt ops ++ o.dst.toList
def tmpsOk (ops : Array Oper) (bs : Array Nat) : Bool :=
 (List.range ops.size).all fun j => (List.range j).all fun i =>
  (bs.getD j 0).testBit i ||
   match ops[i]?, ops[j]? with
   | some oi, some oj =>
    (match oi.dst with | some d => !(opTmps ops oj).contains d | none => true) && (match oj.dst with | some d => !(opTmps ops oi).contains d | none => true)
   | _, _ => true
def edgesOk (ops : Array Oper) : Bool :=
 (List.range ops.size).all fun j => match ops[j]? with | some o => o.after.all fun e => !Region.binds .any e || Nat.blt e.on j | none => true
def blindOp : Op → Bool
 | .move _ | .assign _ | .pick .. | .build .. | .nilCheck _ | .binOp .. | .unOp .. | .makeInterface .. | .makeFunc .. | .slice .. | .fieldAddr .. | .field .. | .indexAddr .. | .index .. | .extract .. => true
 | _ => false
def veq1 : Value → Value → Bool
 | .bool a, .bool b => a == b
 | .int k a, .int l b => k == l && a == b
 | .string a, .string b => a == b
 | .pointer none, .pointer none => true
 | .pointer (some a), .pointer (some b) => a == b
 | .slice none n c, .slice none m d => Nat.beq n m && Nat.beq c d
 | .slice (some a) n c, .slice (some b) m d => a == b && Nat.beq n m && Nat.beq c d
 | .map none, .map none => true
 | .map (some a), .map (some b) => Nat.beq a b
 | .nilFunc, .nilFunc => true
 | .nilIface, .nilIface => true
 | .func f a b, .func g c d => f == g && a.isEmpty && b.isEmpty && c.isEmpty && d.isEmpty
 | _, _ => false
def veqL : List Value → List Value → Bool
 | [], [] => true
 | a :: l, b :: m => veq1 a b && veqL l m
 | _, _ => false
def veq : Value → Value → Bool
 | .agg a, .agg b => veqL a.toList b.toList
 | .tuple a, .tuple b => veqL a.toList b.toList
 | a, b => veq1 a b
structure Pend where
 i : Nat
 o : Oper
 t : Tm
 v : Value
def still (E : Ev) (P : Program) (b : Nat) (H : St) (p : Pend) : Bool :=
 b.testBit p.i ||
  match zDA E P p.t { H with low := H.next } p.o with
  | some (v, H2) => veq v p.v && Nat.beq H2.next H.next && Nat.beq H2.low H.next
  | none => false
def evDraw (E : Ev) (P : Program) (ops : Array Oper) : Nat → List Oper → List Nat → Tm → St → List Pend → List (Nat × St) → Option (Tm × St)
 | _, [], _, t, cur, _, _ => some (t, cur)
 | _, _ :: _, [], _, _, _, _ => none
 | j, o :: rest, b :: bs, t, cur, pend, louds =>
  cond (zCA ops t o)
   (cond (blindOp o.op)
    (match cur.op P t o with
    | some (.val v, _) =>
     match t.put o.dst v with
     | some t' => evDraw E P ops (j + 1) rest bs t' cur pend louds
     | none => none
    | _ => none)
    (match restrict b louds with
    | some R =>
     match zDA E P t { R.getD cur with next := cur.next, low := cur.next } o with
     | some (v, H1) =>
      match t.put o.dst v with
      | some t' =>
       cond (Nat.beq H1.low cur.next)
        (cond (Nat.beq H1.next cur.next)
         (evDraw E P ops (j + 1) rest bs t' cur (⟨j, o, t, v⟩ :: pend) louds)
         (evDraw E P ops (j + 1) rest bs t' (match R with | none => { H1 with low := cur.low } | some _ => merge cur H1) pend (louds ++ [(j, cur)])))
        (cond (R.isNone && pend.all (still E P b H1) && (rest.zip bs).all fun x => blindOp x.1.op || x.2.testBit j)
         (evDraw E P ops (j + 1) rest bs t' { H1 with low := cond (Nat.ble cur.low H1.low) cur.low H1.low } pend []) none)
      | none => none
     | none => none
    | none => none))
   (match t.put o.dst undef with
   | some t' => evDraw E P ops (j + 1) rest bs t' cur pend louds
   | none => none)
def evRegion (E : Ev) (P : Program) (ops : Array Oper) (draw : Bool) (t : Tm) (H : St) : Option (Tm × St) :=
 cond draw
  (cond (edgesOk ops && tmpsOk ops (Region.before ops)) (evDraw E P ops 0 ops.toList (Region.before ops).toList t H [] []) none)
  (evOps E P ops ops.toList t H)
def zCK (E : Ev) (P : Program) : Code → Tm → St → Option (Ex × Tm × St)
 | .skip, t, H | .label _, t, H => some (.normal, t, H)
 | .region _ ops draw, t, H =>
  match evRegion E P ops draw t H with
  | some (t', H') => some (.normal, t', H')
  | none => none
 | .seq x y, t, H =>
  match zCK E P x t H with
  | some (.normal, t', H') => zCK E P y t' H'
  | r => r
 | .cond c x y, t, H =>
  match t.ev c with
  | some (.bool true) => zCK E P x t H
  | some (.bool false) => zCK E P y t H
  | _ => none
 | .block id c, t, H =>
  match zCK E P c t H with
  | some (.exit id', t', H') => cond (Nat.beq id' id) (some (.normal, t', H')) (some (.exit id', t', H'))
  | r => r
 | .loop c, t, H =>
  match zCK E P c t H with
  | some (.normal, t', H') => E.code (.loop c) t' H'
  | r => r
 | .exit id, t, H => some (.exit id, t, H)
 | .ret, t, H => some (.ret, t, H)
 | _, _, _ => none
def evResult (P : Program) (t : Tm) (H : St) : ResultVar → Option Value
 | .tmp k => some ((t.m.get k).getD undef)
 | .cell a ty => H.loadOp P ty ((t.m.get a).getD undef)
def zC1 (P : Program) (t : Tm) (H : St) : List ResultVar → Option (List Value)
 | [] => some []
 | x :: xs => match evResult P t H x with | some v => (match zC1 P t H xs with | some vs => some (v :: vs) | none => none) | none => none
def tupled : List Value → Value
 | [v] => v
 | vs => .tuple vs.toArray
def evCall (E : Ev) (P : Program) (f : FuncId) (args : List Value) (H : St) : Option (Value × St) :=
 match P.funcs[f]? with
 | some fn =>
  match fn.body with
  | some c =>
   match zCK E P c ⟨args.length + (fn.ntmps - args.length), Tr.setList .nil 0 args⟩ H with
   | some (.normal, t, H') | some (.ret, t, H') =>
    match zC1 P t H' fn.results.toList with
    | some vs => some (tupled vs, H')
    | none => none
   | _ => none
  | none => none
 | none => none
def ev (P : Program) : Nat → Ev
 | 0 => ⟨fun _ _ _ => none, fun _ _ _ => none⟩
 | n + 1 => ⟨zCK (ev P n) P, evCall (ev P n) P⟩
def St.empty : St := ⟨0, .nil, .nil, 0⟩
end Go.AE
namespace Go.AE
variable {P : Program} {E : Ev}
structure EvAbs (E : Ev) : Prop where
 code : ∀ {c t H ex t' H'}, E.code c t H = some (ex, t', H') → Abs H H'
 call : ∀ {f args H v H'}, E.call f args H = some (v, H') → Abs H H'
theorem opStep_abs (hE : EvAbs E) {t : Tm} {H H' : St} {o : Oper} {v : Value} (h : zDA E P t H o = some (v, H')) : Abs H H' := by
 unfold zDA at h
 split at h
 ·rename_i hop; simp only [Option.some.injEq, Prod.mk.injEq] at h; obtain ⟨rfl, rfl⟩ := h; exact op_abs hop
 ·rename_i hop; exact (op_abs hop).trans (hE.call h)
 ·cases h
theorem evOps_abs (hE : EvAbs E) {ops : Array Oper} : ∀ {l : List Oper} {t t' : Tm} {H H' : St}, evOps E P ops l t H = some (t', H') → Abs H H'
 | [], t, t', H, H', h => by simp only [evOps, Option.some.injEq, Prod.mk.injEq] at h; obtain ⟨_, rfl⟩ := h; exact Abs.refl _
 | o :: l, t, t', H, H', h => by
  simp only [evOps] at h
  rcases zDY h with h | h
  ·split at h
   ·rename_i hs
    split at h
    ·exact (opStep_abs hE hs).trans (evOps_abs hE h)
    ·cases h
   ·cases h
  ·split at h
   ·exact evOps_abs hE h
   ·cases h
structure Sub (A B : St) : Prop where
 obs : ∀ b o, A.obs.get b = some o → B.obs.get b = some o
 fams : ∀ f fm, A.fams.get f = some fm → B.fams.get f = some fm
theorem Sub.refl (A : St) : Sub A A := ⟨fun _ _ h => h, fun _ _ h => h⟩
theorem Sub.trans {A B C : St} (h : Sub A B) (k : Sub B C) : Sub A C := ⟨fun b o e => k.obs b o (h.obs b o e), fun f fm e => k.fams f fm (h.fams f fm e)⟩
theorem putO_same {α : Type} (i : Nat) (x : Option α) (t : Tr α) : (putO i x t).get i = x.or (t.get i) := by
 cases x with
 | none => rfl
 | some x => simp [putO, Tr.get_set_same]
theorem putO_ne {α : Type} {i b : Nat} (x : Option α) (t : Tr α) (e : b ≠ i) : (putO i x t).get b = t.get b := by
 cases x with
 | none => rfl
 | some x => exact Tr.get_set_ne _ _ e
theorem copyR_spec (H1 : St) : ∀ (n i : Nat) (o : Tr Ob) (f : Tr Fam),
    (∀ b, (copyR H1 n i o f).1.get b = if i ≤ b ∧ b < i + n then (H1.obs.get b).or (o.get b) else o.get b) ∧
    (∀ b, (copyR H1 n i o f).2.get b = if i ≤ b ∧ b < i + n then (H1.fams.get b).or (f.get b) else f.get b) := by
 intro n
 induction n with
 | zero => intro i o f; exact ⟨fun b => by rw [if_neg (by omega)]; rfl, fun b => by rw [if_neg (by omega)]; rfl⟩
 | succ n ih =>
  intro i o f
  obtain ⟨h1, h2⟩ := ih (i + 1) (putO i (H1.obs.get i) o) (putO i (H1.fams.get i) f)
  refine ⟨fun b => ?_, fun b => ?_⟩
  ·simp only [copyR]
   rw [h1]
   by_cases e : b = i
   ·subst e
    rw [if_neg (by omega), if_pos (by omega), putO_same]
   ·rw [putO_ne _ _ e]
    by_cases hr : i + 1 ≤ b ∧ b < i + 1 + n
    ·rw [if_pos hr, if_pos (by omega)]
    ·rw [if_neg hr, if_neg (by omega)]
  ·simp only [copyR]
   rw [h2]
   by_cases e : b = i
   ·subst e
    rw [if_neg (by omega), if_pos (by omega), putO_same]
   ·rw [putO_ne _ _ e]
    by_cases hr : i + 1 ≤ b ∧ b < i + 1 + n
    ·rw [if_pos hr, if_pos (by omega)]
    ·rw [if_neg hr, if_neg (by omega)]
theorem merge_spec {cur H1 : St} (hw : WF cur) (hn : cur.next ≤ H1.next) (hw1 : WF H1) :
    (merge cur H1).next = H1.next ∧ (merge cur H1).low = cur.low ∧
    (∀ b, (merge cur H1).obs.get b = if cur.next ≤ b then H1.obs.get b else cur.obs.get b) ∧ (∀ b, (merge cur H1).fams.get b = if cur.next ≤ b then H1.fams.get b else cur.fams.get b) := by
 obtain ⟨h1, h2⟩ := copyR_spec H1 (H1.next - cur.next) cur.next cur.obs cur.fams
 refine ⟨rfl, rfl, fun b => ?_, fun b => ?_⟩
 ·show (copyR H1 (H1.next - cur.next) cur.next cur.obs cur.fams).1.get b = _
  rw [h1]
  by_cases hb : cur.next ≤ b
  ·rw [if_pos hb]
   have hc : cur.obs.get b = none := by
    cases e : cur.obs.get b with
    | none => rfl
    | some o => have := (hw.obs b o e).1; omega
   by_cases hr : b < H1.next
   ·rw [if_pos (by omega), hc]; cases H1.obs.get b <;> rfl
   ·rw [if_neg (by omega), hc]
    cases e : H1.obs.get b with
    | none => rfl
    | some o => have := (hw1.obs b o e).1; omega
  ·rw [if_neg hb, if_neg (by omega)]
 ·show (copyR H1 (H1.next - cur.next) cur.next cur.obs cur.fams).2.get b = _
  rw [h2]
  by_cases hb : cur.next ≤ b
  ·rw [if_pos hb]
   have hc : cur.fams.get b = none := by
    cases e : cur.fams.get b with
    | none => rfl
    | some o => have := hw.fams b o e; omega
   by_cases hr : b < H1.next
   ·rw [if_pos (by omega), hc]; cases H1.fams.get b <;> rfl
   ·rw [if_neg (by omega), hc]
    cases e : H1.fams.get b with
    | none => rfl
    | some o => have := hw1.fams b o e; omega
  ·rw [if_neg hb, if_neg (by omega)]
def at_ (R cur : St) : St := { R with next := cur.next, low := cur.next }
theorem wf_at {R cur : St} (hw : WF R) (hn : R.next ≤ cur.next) : WF (at_ R cur) :=
 ⟨fun b o h => let ⟨a, b⟩ := hw.obs b o h; ⟨Nat.lt_of_lt_of_le a hn, b⟩, fun f fm h => Nat.lt_of_lt_of_le (hw.fams f fm h) hn, hw.gen⟩
theorem merge_abs {R cur H1 : St} (hw : WF cur) (hR : WF R) (hn : R.next ≤ cur.next) (hs : Sub R cur) (ha : Abs (at_ R cur) H1) (hlow : H1.low = cur.next) :
    Abs0 cur (merge cur H1) := by
 have a := ha (wf_at hR hn)
 have hnx : cur.next ≤ H1.next := a.nx
 obtain ⟨p1, p2, p3⟩ := a.frame cur.next (Nat.le_refl _) (by rw [hlow]; exact Nat.le_refl _)
 obtain ⟨e1, e2, e3, e4⟩ := merge_spec hw a.nx a.wf
 refine ⟨⟨fun b o h => ?_, fun f fm h => ?_, fun b c f g h => ?_⟩, by rw [e1]; exact a.nx, by rw [e2]; exact Nat.le_refl _, fun c hc _ => ⟨fun b hb => ?_, fun f hf => ?_, fun b x f g h hf => ?_⟩, fun b c h => ?_⟩
 ·rw [e3] at h; rw [e1]
  by_cases hb : cur.next ≤ b
  ·rw [if_pos hb] at h; exact a.wf.obs b o h
  ·rw [if_neg hb] at h; have := (hw.obs b o h).1; exact ⟨by omega, (hw.obs b o h).2⟩
 ·rw [e4] at h; rw [e1]
  by_cases hb : cur.next ≤ f
  ·rw [if_pos hb] at h; exact a.wf.fams f fm h
  ·rw [if_neg hb] at h; have := hw.fams f fm h; omega
 ·rw [e3] at h; rw [e4]
  by_cases hb : cur.next ≤ b
  ·rw [if_pos hb] at h
   obtain ⟨fm, q1, q2⟩ := a.wf.gen b c f g h
   by_cases hf : cur.next ≤ f
   ·rw [if_pos hf]; exact ⟨fm, q1, q2⟩
   ·rw [if_neg hf]
    have := p3 b c f g h (by omega)
    have := ((wf_at hR hn).obs b _ this).1
    have hh : (at_ R cur).next = cur.next := rfl
    omega
  ·rw [if_neg hb] at h
   obtain ⟨fm, q1, q2⟩ := hw.gen b c f g h
   have := (hw.obs b _ h).2 c f g rfl
   rw [if_neg (by omega)]; exact ⟨fm, q1, q2⟩
 ·rw [e3, if_neg (by omega)]
 ·rw [e4, if_neg (by omega)]
 ·rw [e3] at h
  by_cases hb : cur.next ≤ b
  ·rw [if_pos hb] at h
   have := p3 b x f g h (by omega)
   have := ((wf_at hR hn).obs b _ this).1
   have hh : (at_ R cur).next = cur.next := rfl
   omega
  ·rw [if_neg hb] at h; exact h
 ·rw [e3] at h
  by_cases hb : cur.next ≤ b
  ·rw [if_pos hb] at h
   have := ((wf_at hR hn).obs b _ (a.ro b c h)).1
   have hh : (at_ R cur).next = cur.next := rfl
   omega
  ·rw [if_neg hb] at h; exact h
theorem same_abs {cur H1 : St} {l : Nat} (ha : Abs (at_ cur cur) H1) (hw : WF cur) (hl : l ≤ cur.low) (hle : ∀ c, c ≤ cur.next → c ≤ l → c ≤ H1.low) : Abs0 cur { H1 with low := l } := by
 have a := ha (wf_at hw (Nat.le_refl _))
 exact ⟨⟨a.wf.obs, a.wf.fams, a.wf.gen⟩, a.nx, hl, fun c hc hc2 => a.frame c hc (hle c hc hc2), a.ro⟩
theorem restrict_mem {b : Nat} : ∀ {louds : List (Nat × St)} {R : St}, restrict b louds = some (some R) → ∃ i, (i, R) ∈ louds
 | [], R, h => by cases h
 | (i, Hi) :: rest, R, h => by
  simp only [restrict] at h
  rcases zDY h with h | h
  ·obtain ⟨k, hk⟩ := restrict_mem h; exact ⟨k, List.mem_cons_of_mem _ hk⟩
  ·have := (zBS h).2
   simp only [Option.some.injEq] at this; subst this
   exact ⟨i, List.mem_cons_self⟩
def Louds (louds : List (Nat × St)) (cur : St) : Prop := ∀ x ∈ louds, WF x.2 ∧ x.2.next ≤ cur.next ∧ Sub x.2 cur
theorem sub_merge {R cur H1 : St} (hw : WF cur) (hR : WF R) (hn : R.next ≤ cur.next) (ha : Abs (at_ R cur) H1) : Sub cur (merge cur H1) := by
 have a := ha (wf_at hR hn)
 obtain ⟨e1, e2, e3, e4⟩ := merge_spec hw a.nx a.wf
 refine ⟨fun b o h => ?_, fun f fm h => ?_⟩
 ·rw [e3, if_neg (by have := (hw.obs b o h).1; omega)]; exact h
 ·rw [e4, if_neg (by have := hw.fams f fm h; omega)]; exact h
theorem Louds.snoc {louds : List (Nat × St)} {cur cur' : St} {j : Nat} (h : Louds louds cur) (hw : WF cur) (hs : Sub cur cur') (hn : cur.next ≤ cur'.next) : Louds (louds ++ [(j, cur)]) cur' := by
 intro x hx
 rcases List.mem_append.1 hx with hx | hx
 ·obtain ⟨a, b, c⟩ := h x hx; exact ⟨a, Nat.le_trans b hn, c.trans hs⟩
 ·simp only [List.mem_singleton] at hx; subst hx; exact ⟨hw, hn, hs⟩
theorem evDraw_abs (hE : EvAbs E) {ops : Array Oper} : ∀ {l : List Oper} {bs : List Nat} {j : Nat} {t t' : Tm} {cur H' : St} {pend : List Pend} {louds : List (Nat × St)},
    evDraw E P ops j l bs t cur pend louds = some (t', H') → WF cur → Louds louds cur → Abs0 cur H'
 | [], bs, j, t, t', cur, H', pend, louds, h, hw, _ => by
  simp only [evDraw, Option.some.injEq, Prod.mk.injEq] at h; obtain ⟨_, rfl⟩ := h; exact Abs.refl _ hw
 | o :: l, [], j, t, t', cur, H', pend, louds, h, hw, _ => by simp only [evDraw] at h; cases h
 | o :: l, b :: bs, j, t, t', cur, H', pend, louds, h, hw, hL => by
  simp only [evDraw] at h
  rcases zDY h with h | h
  ·rcases zDY h with h | h
   ·split at h
    ·split at h
     ·exact evDraw_abs hE h hw hL
     ·cases h
    ·cases h
   ·split at h
    case h_2 => cases h
    rename_i R hR
    split at h
    case h_2 => cases h
    rename_i v H1 hs
    split at h
    case h_2 => cases h
    have hRw : WF (R.getD cur) ∧ (R.getD cur).next ≤ cur.next ∧ Sub (R.getD cur) cur := by
     cases R with
     | none => exact ⟨hw, Nat.le_refl _, Sub.refl _⟩
     | some R => obtain ⟨i, hi⟩ := restrict_mem hR; exact hL _ hi
    have ha : Abs (at_ (R.getD cur) cur) H1 := opStep_abs hE hs
    have a1 := ha (wf_at hRw.1 hRw.2.1)
    cases hlow : Nat.beq H1.low cur.next with
    | true =>
     have hlow' := Nat.eq_of_beq_eq_true hlow
     rw [hlow] at h; simp only [cond_true] at h
     rcases zDY h with h | h
     ·exact evDraw_abs hE h hw hL
     ·cases R with
      | none =>
       have a0 := same_abs (l := cur.low) ha hw (Nat.le_refl _) (fun c h1 _ => by omega)
       have hsub : Sub cur { H1 with low := cur.low } := by
        obtain ⟨p1, p2, _⟩ := a1.frame cur.next (Nat.le_refl _) (by omega)
        exact ⟨fun b o h => (p1 b (hw.obs b o h).1).trans h, fun f fm h => (p2 f (hw.fams f fm h)).trans h⟩
       have := evDraw_abs hE h a0.wf (hL.snoc hw hsub a0.nx)
       exact Abs.trans (fun _ => a0) (fun _ => this) hw
      | some R =>
       have a0 := merge_abs hw hRw.1 hRw.2.1 hRw.2.2 ha hlow'
       have := evDraw_abs hE h a0.wf (hL.snoc hw (sub_merge hw hRw.1 hRw.2.1 ha) a0.nx)
       exact Abs.trans (fun _ => a0) (fun _ => this) hw
    | false =>
     rw [hlow] at h; simp only [cond_false] at h
     obtain ⟨hc, h2⟩ := zBS h
     clear h
     simp only [Bool.and_eq_true] at hc
     have hRn : R = none := by cases R with | none => rfl | some _ => simp at hc
     subst hRn
     rw [low_min] at h2
     have a0 := same_abs (l := min cur.low H1.low) ha hw (Nat.min_le_left _ _) (fun c _ h2 => Nat.le_trans h2 (Nat.min_le_right _ _))
     have := evDraw_abs hE h2 a0.wf (fun x hx => by cases hx)
     exact Abs.trans (fun _ => a0) (fun _ => this) hw
  ·split at h
   ·exact evDraw_abs hE h hw hL
   ·cases h
theorem zCC (hE : EvAbs E) : ∀ {c : Code} {t t' : Tm} {H H' : St} {ex : Ex}, zCK E P c t H = some (ex, t', H') → Abs H H'
 | .skip, _, _, _, _, _, h | .label _, _, _, _, _, _, h | .exit _, _, _, _, _, _, h | .ret, _, _, _, _, _, h => by
  simp only [zCK, Option.some.injEq, Prod.mk.injEq] at h; obtain ⟨_, _, rfl⟩ := h; exact Abs.refl _
 | .region id ops draw, t, t', H, H', ex, h => by
  simp only [zCK] at h
  split at h
  ·rename_i hr
   simp only [Option.some.injEq, Prod.mk.injEq] at h; obtain ⟨_, _, rfl⟩ := h
   unfold evRegion at hr
   rcases zDY hr with hr | hr
   ·exact fun hw => evDraw_abs hE (zBS hr).2 hw (fun x hx => by cases hx)
   ·exact evOps_abs hE hr
  ·cases h
 | .seq x y, t, t', H, H', ex, h => by
  simp only [zCK] at h
  split at h
  ·rename_i hx; exact (zCC hE hx).trans (zCC hE h)
  ·exact zCC hE h
 | .cond c x y, t, t', H, H', ex, h => by
  simp only [zCK] at h
  split at h
  ·exact zCC hE h
  ·exact zCC hE h
  ·cases h
 | .block id c, t, t', H, H', ex, h => by
  simp only [zCK] at h
  split at h
  ·rename_i hx
   rcases zDY h with h | h <;> (simp only [Option.some.injEq, Prod.mk.injEq] at h; obtain ⟨_, _, rfl⟩ := h; exact zCC hE hx)
  ·exact zCC hE h
 | .loop c, t, t', H, H', ex, h => by
  simp only [zCK] at h
  split at h
  ·rename_i hx; exact (zCC hE hx).trans (hE.code h)
  ·exact zCC hE h
 | .rangeFunc .., _, _, _, _, _, h | .scope _, _, _, _, _, _, h | .goto _, _, _, _, _, _, h | .refuse _, _, _, _, _, _, h => by simp only [zCK] at h; cases h
theorem evCall_abs (hE : EvAbs E) {f : FuncId} {args : List Value} {H H' : St} {v : Value} (h : evCall E P f args H = some (v, H')) : Abs H H' := by
 unfold evCall at h
 split at h
 case h_2 => cases h
 split at h
 case h_2 => cases h
 split at h
 ·rename_i hc
  split at h
  ·simp only [Option.some.injEq, Prod.mk.injEq] at h; obtain ⟨_, rfl⟩ := h; exact zCC hE hc
  ·cases h
 ·rename_i hc
  split at h
  ·simp only [Option.some.injEq, Prod.mk.injEq] at h; obtain ⟨_, rfl⟩ := h; exact zCC hE hc
  ·cases h
 ·cases h
theorem ev_abs (P : Program) : ∀ n, EvAbs (ev P n)
 | 0 => ⟨fun h => (nomatch h), fun h => (nomatch h)⟩
 | n + 1 => ⟨fun h => zCC (ev_abs P n) h, fun h => evCall_abs (ev_abs P n) h⟩
end Go.AE
namespace Go.AE
open Go.RowKit (Below)
variable {μ : Mu} {H H' H₁ : St} {w : World} {P : Program} {E : Ev}
def Ex.to : Ex → Exit
 | .normal => .normal
 | .exit id => .exit id
 | .ret => .ret
def CallOk (P : Program) (f : FuncId) (args : List Value) (H : St) (v : Value) (H' : St) : Prop :=
 ∀ ⦃μ : Mu⦄ ⦃w : World⦄ ⦃args' : Array Value⦄, Rel μ H w → WF H → Free μ H H' → VRs w μ args args'.toList →
  Calls P f args' w fun e w' => ∃ v' μ', e = .returned v' ∧ Step μ H w μ' H' w' ∧ VR w' μ' v v'
def CodeOk (P : Program) (c : Code) (t : Tm) (H : St) (ex : Ex) (t' : Tm) (H' : St) : Prop :=
 ∀ ⦃Q : Exit → Act → World → Prop⦄ ⦃a : Act⦄ ⦃w : World⦄ ⦃μ : Mu⦄, Rel μ H w → WF H → Free μ H H' → TmR w μ t a.tmps → a.defers = [] →
  (∀ a' w' μ', Step μ H w μ' H' w' → TmR w' μ' t' a'.tmps → a'.defers = [] → Q ex.to a' w') → c.wp P Q a w
def LoopOk (P : Program) (n : Nat) (c : Code) (t : Tm) (H : St) (ex : Ex) (t' : Tm) (H' : St) : Prop :=
 ∀ ⦃Q : Exit → Act → World → Prop⦄ ⦃a : Act⦄ ⦃w : World⦄ ⦃μ : Mu⦄, Rel μ H w → WF H → Free μ H H' → TmR w μ t a.tmps → a.defers = [] →
  (∀ a' w' μ', Step μ H w μ' H' w' → TmR w' μ' t' a'.tmps → a'.defers = [] → Q ex.to a' w') → Code.rounds P c Q n a w
structure EvOk (P : Program) (n : Nat) (E : Ev) : Prop where
 abs : EvAbs E
 call : ∀ {f args H v H'}, E.call f args H = some (v, H') → CallOk P f args H v H'
 loop : ∀ {c t H ex t' H'}, E.code (.loop c) t H = some (ex, t', H') → LoopOk P n c t H ex t' H'
theorem zB7 : scal undef = true := rfl
theorem Step.drew (h : Rel μ H w) (n : Nat) : Step μ H w μ H { w with drawn := n } :=
 ⟨.refl _, fun _ h => h, h.drew n, fun _ h h' => absurd h h', Nat.le_refl _, Nat.le_refl _, Nat.le_refl _, rfl, rfl, rfl, fun _ _ _ _ h => ⟨h, fun _ => ⟨rfl, rfl, rfl, Nat.le_refl _, fun _ _ => rfl⟩⟩⟩
theorem VR.bool_inv {b : Bool} {v : Value} (h : VR w μ (.bool b) v) : v = .bool b := h.scal_eq rfl
theorem VR.of_bool {v : Value} {b : Bool} (h : VR w μ v (.bool b)) : v = .bool b := by
 cases h with
 | scal h => rfl
theorem TmR.put {t t' : Tm} {a : Act} {dst : Option Nat} {v v' : Value} (hT : TmR w μ t a.tmps) (hv : VR w μ v v') (h : t.put dst v = some t') : TmR w μ t' (a.put dst v').tmps := by
 cases dst with
 | none => simp only [Tm.put, Option.some.injEq] at h; subst h; exact hT
 | some d =>
  simp only [Tm.put] at h
  obtain ⟨hd, h⟩ := zBS h
  simp only [Option.some.injEq] at h
  subst h
  have hd' : d < a.tmps.size := by have := hT.1; have := blt_lt hd; omega
  refine ⟨by simp [Act.put, hT.1], fun k => ?_⟩
  show VR w μ (((t.m.set d v).get k).getD undef) ((a.tmps.setIfInBounds d v').getD k undef)
  rw [Tr.get_set]
  by_cases hk : k = d
  ·subst hk
   rw [if_pos rfl]
   simpa [Array.getD, hd'] using hv
  ·rw [if_neg hk]
   have e : (a.tmps.setIfInBounds d v').getD k undef = a.tmps.getD k undef := by
    rw [Array.getD_eq_getD_getElem?, Array.getD_eq_getD_getElem?, Array.getElem?_setIfInBounds_ne (fun e => hk e.symm)]
   rw [e]; exact hT.2 k
theorem zDK (a : Act) (dst : Option Nat) (v : Value) : (a.put dst v).defers = a.defers := by cases dst <;> rfl
theorem wanted_eq {t : Tm} {a : Act} (hT : TmR w μ t a.tmps) (ops : Array Oper) (o : Oper) : Region.wanted o (yielded ops a.tmps) = zCA ops t o := by
 unfold Region.wanted zCA
 cases hg : o.guard with
 | none => rfl
 | some jw =>
  obtain ⟨j, want⟩ := jw
  dsimp only
  unfold yielded
  cases hd : (ops[j]?).bind (·.dst) with
  | none => rfl
  | some d =>
   dsimp only [Option.bind_some]
   have hv := hT.2 d
   have key : ∀ b, a.tmps[d]? = some (.bool b) ↔ t.m.get d = some (.bool b) := by
    intro b
    rw [Array.getD_eq_getD_getElem?] at hv
    constructor
    ·intro e
     rw [e] at hv
     have := VR.of_bool hv
     cases ht : t.m.get d with
     | none => rw [ht] at this; cases this
     | some x => rw [ht] at this; exact congrArg some this
    ·intro e
     rw [e] at hv
     have := VR.bool_inv hv
     cases ht : a.tmps[d]? with
     | none => rw [ht] at this; cases this
     | some x => rw [ht] at this; exact congrArg some this
   cases ht : t.m.get d with
   | none =>
    cases hx : a.tmps[d]? with
    | none => rfl
    | some x =>
     cases x <;> first | rfl | (rename_i b; have := (key b).1 hx; rw [ht] at this; cases this)
   | some y =>
    cases hx : a.tmps[d]? with
    | none => cases y <;> first | rfl | (rename_i b; have := (key b).2 ht; rw [hx] at this; cases this)
    | some x =>
     cases y
     case bool b =>
      have := (key b).2 ht
      rw [hx] at this; cases this
      cases b <;> cases want <;> rfl
     all_goals (cases x <;> first | rfl | (rename_i b; have := (key b).1 hx; rw [ht] at this; cases this))
theorem opStep_sound {n : Nat} (hE : EvOk P n E) (hR : Rel μ H w) (hW : WF H) (hF : Free μ H H') {t : Tm} {a : Act} (hT : TmR w μ t a.tmps) {o : Oper} {v : Value}
    (h : zDA E P t H o = some (v, H')) {K : Act → World → Prop} {Q : Exit → Act → World → Prop}
    (hK : ∀ v' w' μ', Step μ H w μ' H' w' → VR w' μ' v v' → K (a.put o.dst v') w') : o.wp P a w K Q := by
 unfold zDA at h
 split at h
 ·rename_i v0 H0 hop
  simp only [Option.some.injEq, Prod.mk.injEq] at h; obtain ⟨rfl, rfl⟩ := h
  obtain ⟨r', w', μ', hrun, hst, hn⟩ := op_sound hR hT hop hF
  unfold Oper.wp
  rw [hrun]
  cases r' with
  | value v' => exact hK v' w' μ' hst hn
  | skip =>
   have hn : v0 = undef := hn
   subst hn
   exact hK undef w' μ' hst (.scal zB7)
  | _ => exact hn.elim
 ·rename_i f args H0 hop
  have a0 := op_abs hop hW
  have a1 := hE.abs.call h a0.wf
  obtain ⟨r', w', μ', hrun, hst, hn⟩ := op_sound hR hT hop (hF.left a1.nx)
  unfold Oper.wp
  rw [hrun]
  cases r' with
  | enter g arr =>
   obtain ⟨rfl, hvs⟩ := hn
   refine Calls.mono (hE.call h hst.rel a0.wf (hF.right hst) hvs) ?_
   rintro e w'' ⟨v', μ'', rfl, h2, h3⟩
   exact hK v' w'' μ'' (hst.trans h2) h3
  | _ => exact hn.elim
 ·cases h
theorem evOps_sound {n : Nat} (hE : EvOk P n E) {ops : Array Oper} : ∀ {l : List Oper} {k : Nat} {t t' : Tm} {H H' : St} {a : Act} {w : World} {μ : Mu} {Q : Exit → Act → World → Prop},
    ops.toList.drop k = l → evOps E P ops l t H = some (t', H') → Rel μ H w → WF H → Free μ H H' → TmR w μ t a.tmps → a.defers = [] →
    (∀ a' w' μ', Step μ H w μ' H' w' → TmR w' μ' t' a'.tmps → a'.defers = [] → Q .normal a' w') → wpOps P ops Q (List.range' k l.length) a w
 | [], k, t, t', H, H', a, w, μ, Q, hl, h, hR, hW, hF, hT, hd, hQ => by
  simp only [evOps, Option.some.injEq, Prod.mk.injEq] at h; obtain ⟨rfl, rfl⟩ := h
  exact hQ a w μ (.refl hR) hT hd
 | o :: l, k, t, t', H, H', a, w, μ, Q, hl, h, hR, hW, hF, hT, hd, hQ => by
  have ho : ops[k]? = some o := by
   rw [← Array.getElem?_toList]
   have : (ops.toList.drop k)[0]? = some o := by rw [hl]; rfl
   simpa using this
  have hl' : ops.toList.drop (k + 1) = l := by
   have : (ops.toList.drop k).drop 1 = l := by rw [hl]; rfl
   simpa [List.drop_drop] using this
  rw [List.length_cons, List.range'_succ]
  simp only [wpOps, ho, wanted_eq hT]
  simp only [evOps] at h
  cases hw : zCA ops t o with
  | true =>
   rw [hw] at h
   simp only [cond_true] at h
   rw [if_pos rfl]
   refine .inl ?_
   split at h
   case h_2 => cases h
   rename_i v H1 hs
   split at h
   case h_2 => cases h
   rename_i t1 ht1
   have a1 := opStep_abs hE.abs hs hW
   have a2 := evOps_abs hE.abs h a1.wf
   refine opStep_sound hE hR hW (hF.left a2.nx) hT hs fun v' w' μ' hst hv => ?_
   exact evOps_sound hE hl' h hst.rel a1.wf (hF.right hst) ((hT.mono hst.le hst.ext).put hv ht1) (by rw [zDK]; exact hd)
    fun a' w'' μ'' h2 h3 h4 => hQ a' w'' μ'' (hst.trans h2) h3 h4
  | false =>
   rw [hw] at h
   simp only [cond_false] at h
   rw [if_neg (by simp)]
   split at h
   case h_2 => cases h
   rename_i t1 ht1
   exact evOps_sound hE hl' h hR hW hF (hT.put (.scal zB7) ht1) (by rw [zDK]; exact hd) hQ
end Go.AE
namespace Go.AE
open Go.RowKit (Below)
variable {μ : Mu} {H H' H₁ : St} {w : World} {P : Program} {E : Ev}
def DrawOk (P : Program) (E : Ev) : Prop :=
 ∀ {ops : Array Oper} {id : Nat} {t : Tm} {H : St} {t' : Tm} {H' : St}, evRegion E P ops true t H = some (t', H') → CodeOk P (.region id ops true) t H .normal t' H'
theorem zC3 {n : Nat} (hE : EvOk P n E) (hD : DrawOk P E) : ∀ {c : Code} {t t' : Tm} {H H' : St} {ex : Ex}, zCK E P c t H = some (ex, t', H') → CodeOk P c t H ex t' H'
 | .skip, t, t', H, H', ex, h => by
  simp only [zCK, Option.some.injEq, Prod.mk.injEq] at h; obtain ⟨rfl, rfl, rfl⟩ := h
  intro Q a w μ hR _ _ hT hd hQ; exact wp_skip (hQ a w μ (.refl hR) hT hd)
 | .label _, t, t', H, H', ex, h => by
  simp only [zCK, Option.some.injEq, Prod.mk.injEq] at h; obtain ⟨rfl, rfl, rfl⟩ := h
  intro Q a w μ hR _ _ hT hd hQ; exact wp_label (hQ a w μ (.refl hR) hT hd)
 | .exit _, t, t', H, H', ex, h => by
  simp only [zCK, Option.some.injEq, Prod.mk.injEq] at h; obtain ⟨rfl, rfl, rfl⟩ := h
  intro Q a w μ hR _ _ hT hd hQ; exact wp_exit (hQ a w μ (.refl hR) hT hd)
 | .ret, t, t', H, H', ex, h => by
  simp only [zCK, Option.some.injEq, Prod.mk.injEq] at h; obtain ⟨rfl, rfl, rfl⟩ := h
  intro Q a w μ hR _ _ hT hd hQ; exact wp_ret (hQ a w μ (.refl hR) hT hd)
 | .region id ops draw, t, t', H, H', ex, h => by
  simp only [zCK] at h
  split at h
  case h_2 => cases h
  rename_i t1 H1 hr
  simp only [Option.some.injEq, Prod.mk.injEq] at h; obtain ⟨rfl, rfl, rfl⟩ := h
  cases draw with
  | true => exact hD hr
  | false =>
   simp only [evRegion, cond_false] at hr
   intro Q a w μ hR hW hF hT hd hQ
   refine wp_region ?_
   have := evOps_sound hE (ops := ops) (k := 0) (l := ops.toList) rfl hr hR hW hF hT hd hQ
   rwa [Array.length_toList, ← List.range_eq_range'] at this
 | .seq x y, t, t', H, H', ex, h => by
  simp only [zCK] at h
  intro Q a w μ hR hW hF hT hd hQ
  cases hx : zCK E P x t H with
  | none => rw [hx] at h; cases h
  | some r =>
   obtain ⟨ex1, t1, H1⟩ := r
   rw [hx] at h
   have kx := zC3 hE hD hx
   have a1 := zCC hE.abs hx hW
   cases ex1 with
   | normal =>
    dsimp only at h
    have ky := zC3 hE hD h
    have a2 := zCC hE.abs h a1.wf
    exact wp_seq (kx hR hW (hF.left a2.nx) hT hd fun a1' w1 μ1 h1 h2 h3 =>
     ky h1.rel a1.wf (hF.right h1) h2 h3 fun a2' w2 μ2 k1 k2 k3 => hQ a2' w2 μ2 (h1.trans k1) k2 k3)
   | exit id => cases h; exact wp_seq (kx hR hW hF hT hd hQ)
   | ret => cases h; exact wp_seq (kx hR hW hF hT hd hQ)
 | .cond c x y, t, t', H, H', ex, h => by
  simp only [zCK] at h
  intro Q a w μ hR hW hF hT hd hQ
  split at h
  ·rename_i hc
   exact wp_cond_true (ev_sound hT hc).bool_inv (zC3 hE hD h hR hW hF hT hd hQ)
  ·rename_i hc
   exact wp_cond_false (ev_sound hT hc).bool_inv (zC3 hE hD h hR hW hF hT hd hQ)
  ·cases h
 | .block id c, t, t', H, H', ex, h => by
  simp only [zCK] at h
  intro Q a w μ hR hW hF hT hd hQ
  cases hx : zCK E P c t H with
  | none => rw [hx] at h; cases h
  | some r =>
   obtain ⟨ex1, t1, H1⟩ := r
   rw [hx] at h
   have kx := zC3 hE hD hx
   cases ex1 with
   | normal => cases h; exact wp_block (kx hR hW hF hT hd hQ)
   | ret => cases h; exact wp_block (kx hR hW hF hT hd hQ)
   | exit id' =>
    dsimp only at h
    cases hb : Nat.beq id' id with
    | true =>
     rw [hb] at h; cases h
     have hb := Nat.eq_of_beq_eq_true hb
     refine wp_block (kx hR hW hF hT hd fun a1 w1 μ1 h1 h2 h3 => ?_)
     show (if id' = id then _ else _)
     rw [if_pos hb]; exact hQ a1 w1 μ1 h1 h2 h3
    | false =>
     rw [hb] at h; cases h
     have hb := Nat.ne_of_beq_eq_false hb
     refine wp_block (kx hR hW hF hT hd fun a1 w1 μ1 h1 h2 h3 => ?_)
     show (if id' = id then _ else _)
     rw [if_neg hb]; exact hQ a1 w1 μ1 h1 h2 h3
 | .loop c, t, t', H, H', ex, h => by
  simp only [zCK] at h
  intro Q a w μ hR hW hF hT hd hQ
  refine wp_loop_rounds (n + 1) ?_
  rw [rounds_succ]
  cases hx : zCK E P c t H with
  | none => rw [hx] at h; cases h
  | some r =>
   obtain ⟨ex1, t1, H1⟩ := r
   rw [hx] at h
   have kx := zC3 hE hD hx
   have a1 := zCC hE.abs hx hW
   cases ex1 with
   | normal =>
    dsimp only at h
    have a2 := hE.abs.code h a1.wf
    exact kx hR hW (hF.left a2.nx) hT hd fun a1' w1 μ1 h1 h2 h3 =>
     hE.loop h h1.rel a1.wf (hF.right h1) h2 h3 fun a2' w2 μ2 k1 k2 k3 => hQ a2' w2 μ2 (h1.trans k1) k2 k3
   | exit id => cases h; exact kx hR hW hF hT hd hQ
   | ret => cases h; exact kx hR hW hF hT hd hQ
 | .rangeFunc .., _, _, _, _, _, h | .scope _, _, _, _, _, _, h | .goto _, _, _, _, _, _, h | .refuse _, _, _, _, _, _, h => by simp only [zCK] at h; cases h
theorem evLoop_sound {n : Nat} (hE : EvOk P n E) (hD : DrawOk P E) {c : Code} {t t' : Tm} {H H' : St} {ex : Ex} (h : zCK E P (.loop c) t H = some (ex, t', H')) : LoopOk P (n + 1) c t H ex t' H' := by
 simp only [zCK] at h
 intro Q a w μ hR hW hF hT hd hQ
 rw [rounds_succ]
 cases hx : zCK E P c t H with
 | none => rw [hx] at h; cases h
 | some r =>
  obtain ⟨ex1, t1, H1⟩ := r
  rw [hx] at h
  have kx := zC3 hE hD hx
  have a1 := zCC hE.abs hx hW
  cases ex1 with
  | normal =>
   dsimp only at h
   have a2 := hE.abs.code h a1.wf
   exact kx hR hW (hF.left a2.nx) hT hd fun a1' w1 μ1 h1 h2 h3 =>
    hE.loop h h1.rel a1.wf (hF.right h1) h2 h3 fun a2' w2 μ2 k1 k2 k3 => hQ a2' w2 μ2 (h1.trans k1) k2 k3
  | exit id => cases h; exact kx hR hW hF hT hd hQ
  | ret => cases h; exact kx hR hW hF hT hd hQ
def resM (tmps : Array Value) : ResultVar → Sem Value
 | .tmp t => pure (tmps.getD t undef)
 | .cell a t => do loadVar t (← asAddr (tmps.getD a undef))
theorem results_eq (fn : Func) (tmps : Array Value) : results fn tmps = (do
    let vs ← fn.results.toList.mapM (resM tmps)
    pure (if h : vs.toArray.size = 1 then vs.toArray[0] else .tuple vs.toArray)) := by
 unfold results
 rw [Array.mapM_eq_mapM_toList]
 simp only [map_eq_pure_bind, bind_assoc, pure_bind]
 rfl
theorem evResult_sound (hR : Rel μ H w) {t : Tm} {tmps : Array Value} (hT : TmR w μ t tmps) {x : ResultVar} {v : Value} (h : evResult P t H x = some v) :
    ∃ v', (resM tmps x).run P w = .ok v' w ∧ VR w μ v v' := by
 cases x with
 | tmp k => simp only [evResult, Option.some.injEq] at h; subst h; exact ⟨_, rfl, hT.2 k⟩
 | cell k ty =>
  simp only [evResult] at h
  obtain ⟨v', h1, h2⟩ := loadOp_sound hR (hT.2 k) h
  refine ⟨v', ?_, h2⟩
  have hp : ∃ a, (t.m.get k).getD undef = .pointer (some a) := by
   generalize (t.m.get k).getD undef = y at h
   unfold St.loadOp at h
   split at h
   ·exact ⟨_, rfl⟩
   ·cases h
  obtain ⟨a, ha⟩ := hp
  have hv := hT.2 k
  rw [ha] at hv
  obtain ⟨b, off, C, d, z, rfl, he, hb, hdo⟩ := hv.ptr_inv
  rw [he] at h1
  simp only [resM, he, asAddr, Sem.run_bind, Sem.run_pure, Result.andThen_ok]
  simpa only [Instr.loadAt, Instr.sureAddr, Sem.run_bind, Sem.run_pure, Result.andThen_ok] using h1
theorem evResults_sound (hR : Rel μ H w) {t : Tm} {tmps : Array Value} (hT : TmR w μ t tmps) : ∀ {xs : List ResultVar} {vs : List Value}, zC1 P t H xs = some vs →
    ∃ vs', (xs.mapM (resM tmps)).run P w = .ok vs' w ∧ VRs w μ vs vs'
 | [], vs, h => by simp only [zC1, Option.some.injEq] at h; subst h; exact ⟨[], by simp, .nil⟩
 | x :: xs, vs, h => by
  simp only [zC1] at h
  split at h
  case h_2 => cases h
  rename_i v hv
  split at h
  case h_2 => cases h
  rename_i us hus
  simp only [Option.some.injEq] at h; subst h
  obtain ⟨v', h1, h2⟩ := evResult_sound hR hT hv
  obtain ⟨us', k1, k2⟩ := evResults_sound hR hT hus
  exact ⟨v' :: us', by simp only [List.mapM_cons, Sem.run_bind, h1, Result.andThen_ok, k1, Sem.run_pure], .cons h2 k2⟩
theorem tupled_sound {vs vs' : List Value} (h : VRs w μ vs vs') : VR w μ (tupled vs) (if h : vs'.toArray.size = 1 then vs'.toArray[0] else .tuple vs'.toArray) := by
 cases h with
 | nil => exact .tuple .nil
 | cons h1 h2 =>
  cases h2 with
  | nil => exact h1
  | cons h3 h4 =>
   rw [dif_neg (by simp)]
   exact .tuple (.cons h1 (.cons h3 h4))
theorem init_tmps {args : List Value} {args' : Array Value} (hvs : VRs w μ args args'.toList) (n : Nat) :
    TmR w μ ⟨args.length + (n - args.length), Tr.setList .nil 0 args⟩ (args' ++ Array.replicate (n - args'.size) undef) := by
 have hl : args.length = args'.size := by rw [hvs.length]; simp
 refine ⟨by simp [hl], fun k => ?_⟩
 dsimp only
 rw [Tr.get_setList]
 by_cases hk : k < args.length
 ·rw [if_pos (by omega)]
  obtain ⟨v, hv⟩ : ∃ v, args[k]? = some v := ⟨args[k], by simp [hk]⟩
  obtain ⟨v', h1, h2⟩ := hvs.get k v hv
  have e : (args' ++ Array.replicate (n - args'.size) undef).getD k undef = v' := by
   rw [Array.getD_eq_getD_getElem?, Array.getElem?_append_left (by omega), ← Array.getElem?_toList, h1]; rfl
  rw [e]
  simpa [hv] using h2
 ·rw [if_neg (by omega)]
  have e : (args' ++ Array.replicate (n - args'.size) undef).getD k undef = undef := by
   rw [Array.getD_eq_getD_getElem?, Array.getElem?_append_right (by omega), Array.getElem?_replicate]
   split <;> rfl
  rw [e]
  exact .scal zB7
theorem evCall_sound {n : Nat} (hE : EvOk P n E) (hD : DrawOk P E) {f : FuncId} {args : List Value} {H H' : St} {v : Value} (h : evCall E P f args H = some (v, H')) : CallOk P f args H v H' := by
 unfold evCall at h
 split at h
 case h_2 => cases h
 rename_i fn hf
 split at h
 case h_2 => cases h
 rename_i c hc
 intro μ w args' hR hW hF hvs
 have fin : ∀ (ex : Ex) (t : Tm) (H1 : St), (ex = .normal ∨ ex = .ret) → zCK E P c ⟨args.length + (fn.ntmps - args.length), Tr.setList .nil 0 args⟩ H = some (ex, t, H1) →
     (∃ vs, zC1 P t H1 fn.results.toList = some vs ∧ v = tupled vs ∧ H' = H1) →
     Calls P f args' w fun e w' => ∃ v' μ', e = .returned v' ∧ Step μ H w μ' H' w' ∧ VR w' μ' v v' := by
  rintro ex t H1 hex hev ⟨vs, hvs1, rfl, rfl⟩
  refine calls_of_wp hf hc (zC3 hE hD hev hR hW hF (init_tmps hvs fn.ntmps) rfl fun a' w' μ' h1 h2 h3 => ?_)
  obtain ⟨vs', k1, k2⟩ := evResults_sound (P := P) h1.rel h2 hvs1
  have hres : (results fn a'.tmps).run P w' = .ok (if h : vs'.toArray.size = 1 then vs'.toArray[0] else .tuple vs'.toArray) w' := by
   rw [results_eq]; simp only [Sem.run_bind, k1, Result.andThen_ok, Sem.run_pure]
  rcases hex with rfl | rfl <;> exact ⟨h3, _, hres, _, μ', rfl, h1, tupled_sound k2⟩
 split at h
 ·rename_i t H1 hev
  split at h
  case h_2 => cases h
  rename_i vs hvs1
  simp only [Option.some.injEq, Prod.mk.injEq] at h
  exact fin _ t H1 (.inl rfl) hev ⟨vs, hvs1, h.1.symm, h.2.symm⟩
 ·rename_i t H1 hev
  split at h
  case h_2 => cases h
  rename_i vs hvs1
  simp only [Option.some.injEq, Prod.mk.injEq] at h
  exact fin _ t H1 (.inr rfl) hev ⟨vs, hvs1, h.1.symm, h.2.symm⟩
 ·cases h
end Go.AE
namespace Go.AE
open Go.RowKit (Below)
variable {μ μ' : Mu} {A B G H H' H₁ : St} {w w' : World} {P : Program} {E : Ev}
theorem Sub.rwb (h : Sub B A) {b : Nat} {x : Tr Value × Nat × Fam} (e : B.rwb b = some x) : A.rwb b = some x := by
 unfold St.rwb at *
 split at e
 ·rename_i c f g hb
  rw [h.obs b _ hb]
  dsimp only
  split at e
  ·rename_i fm hf; rw [h.fams f _ hf]; exact e
  ·cases e
 ·cases e
theorem Sub.ro (h : Sub B A) {b : Nat} {c : Tr Value} (e : B.ro? b = some c) : A.ro? b = some c := by
 unfold St.ro? at *
 split at e
 ·rename_i c' hb; rw [h.obs b _ hb]; exact e
 ·cases e
theorem Sub.map (h : Sub B A) {b : Nat} {c : List (Value × Value)} (e : B.map? b = some c) : A.map? b = some c := by
 unfold St.map? at *
 split at e
 ·rename_i c' hb; rw [h.obs b _ hb]; exact e
 ·cases e
theorem Sub.cell (h : Sub B A) {b off : Nat} {v : Value} (e : B.cell? b off = some v) : A.cell? b off = some v := by
 unfold St.cell? at *
 split at e
 ·rename_i c hb; rw [h.obs b _ hb]; exact e
 ·rename_i c f g hb
  rw [h.obs b _ hb]
  dsimp only
  split at e
  ·rename_i fm hf; rw [h.fams f _ hf]; exact e
  ·cases e
 ·cases e
theorem rwb_obs {b : Nat} {c : Tr Value} {f : Nat} {fm : Fam} (h : A.rwb b = some (c, f, fm)) : ∃ g, A.obs.get b = some (.rw c f g) ∧ A.fams.get f = some fm := by
 unfold St.rwb at h
 split at h
 ·rename_i c' f' g' hb
  split at h
  ·rename_i fm' hf
   have := (zBS h).2
   simp only [Option.some.injEq, Prod.mk.injEq] at this
   obtain ⟨rfl, rfl, rfl⟩ := this
   exact ⟨g', hb, hf⟩
  ·cases h
 ·cases h
theorem map_obs {b : Nat} {es : List (Value × Value)} (h : A.map? b = some es) : A.obs.get b = some (.map es) := by
 unfold St.map? at h
 split at h
 ·rename_i hb; simp only [Option.some.injEq] at h; subst h; exact hb
 ·cases h
theorem ro_obs {b : Nat} {es : Tr Value} (h : A.ro? b = some es) : A.obs.get b = some (.ro es) := by
 unfold St.ro? at h
 split at h
 ·rename_i hb; simp only [Option.some.injEq] at h; subst h; exact hb
 ·cases h
theorem Rel.sub (h : Rel μ A w) (s : Sub B A) (hw : WF B) : Rel μ B w where
 bd := h.bd
 cells := fun b off v e => h.cells b off v (s.cell e)
 rw := fun b c f fm e => h.rw b c f fm (s.rwb e)
 sep := fun b c f fm C d z e hm b' d' z' hm' => by
  obtain ⟨h1, h2⟩ := h.sep b c f fm C d z (s.rwb e) hm b' d' z' hm'
  refine ⟨?_, fun c' f' fm' e' => h2 c' f' fm' (s.rwb e')⟩
  cases hr : B.ro? b' with
  | none => rfl
  | some x => rw [s.ro hr] at h1; cases h1
 map := fun b es e => h.map b es (s.map e)
 mapsep := fun b b' es es' C z z' d d' e e' => h.mapsep b b' es es' C z z' d d' (s.map e) (s.map e')
 obs := fun b o e => ⟨(hw.obs b o e).1, fun c f g eo => by
  subst eo
  have := (hw.obs b _ e).2 c f g rfl
  have := (hw.obs b _ e).1
  omega⟩
 fams := hw.fams
 gen := fun b c f g e fm ef => by
  obtain ⟨fm', q1, q2⟩ := hw.gen b c f g e
  rw [ef] at q1; cases q1; exact q2
theorem Own.sub {c n : Nat} (h : Own c n μ A) (s : Sub B A) : Own c n μ B :=
 ⟨fun b x f fm C d z e => h.1 b x f fm C d z (s.rwb e), fun b es C d z e => h.2 b es C d z (s.map e)⟩
theorem Own.next {n : Nat} (hw : WF A) : Own A.next n μ A :=
 ⟨fun b x f fm C d z e hc _ => by
  obtain ⟨g, _, q⟩ := rwb_obs e
  have := hw.fams f fm q; omega,
  fun b es C d z e hc _ => by
   have := (hw.obs b _ (map_obs e)).1; omega⟩
theorem below_cell {n : Nat} (hb : Below n w w') {C off : Nat} (hC : C < n) : w'.cell? ⟨C, off, none⟩ = w.cell? ⟨C, off, none⟩ ∧ w'.frozen? ⟨C, off, none⟩ = w.frozen? ⟨C, off, none⟩ := by
 have e := hb.block C hC
 constructor
 ·simp only [World.cell?, e]
 ·simp only [World.frozen?, e]
theorem Rel.below (h : Rel μ A w) (hb : Below w.heap.size w w') (he : Ext w w') : Rel μ A w' where
 bd := fun b C d z e => Nat.lt_of_lt_of_le (h.bd b C d z e) hb.size
 cells := fun b off v e => by
  obtain ⟨C, d, z, v', q1, q2, q3, q4⟩ := h.cells b off v e
  exact ⟨C, d, z, v', q1, q2, by rw [(below_cell hb (h.bd _ _ _ _ q1)).1]; exact q3, q4.mono (.refl _) he⟩
 rw := fun b c f fm e => by
  obtain ⟨C, d, z, q1, q2, q3⟩ := h.rw b c f fm e
  exact ⟨C, d, z, q1, fun off v ev => let ⟨a, b, c⟩ := q2 off v ev; ⟨a, he _ b, c⟩, q3⟩
 sep := h.sep
 map := fun b es e => by
  obtain ⟨C, es', cl, q1, q2, q3⟩ := h.map b es e
  exact ⟨C, es', cl, q1, by rw [hb.block C (h.bd _ _ _ _ q1)]; exact q2, q3.mono (.refl _) he⟩
 mapsep := h.mapsep
 obs := h.obs
 fams := h.fams
 gen := h.gen
theorem Rel.low (h : Rel μ A w) (l : Nat) : Rel μ { A with low := l } w := ⟨h.bd, h.cells, h.rw, h.sep, h.map, h.mapsep, h.obs, h.fams, h.gen⟩
structure Joined (A H₁ A' : St) (n₀ : Nat) : Prop where
 obs : ∀ b, A'.obs.get b = if n₀ ≤ b ∧ b < H₁.next then H₁.obs.get b else A.obs.get b
 fams : ∀ b, A'.fams.get b = if n₀ ≤ b ∧ b < H₁.next then H₁.fams.get b else A.fams.get b
 none : ∀ b, n₀ ≤ b → b < H₁.next → A.obs.get b = none ∧ A.fams.get b = none
theorem rel_join {A' : St} {n₀ : Nat} (hA : Rel μ A w) (hwA : WF A) (hwA' : WF A') (hG : WF G) (hst : Step μ G w μ' H₁ w') (hab : Abs0 G H₁) (hn : G.next = n₀) (hlow : n₀ ≤ H₁.low)
    (hj : Joined A H₁ A' n₀) (hdom : ∀ b, n₀ ≤ b → b < H₁.next → μ b = none) : Rel μ' A' w' ∧ Below w.heap.size w w' ∧ ∀ c n, n ≤ w.heap.size → Own c n μ A → Own c n μ' A' := by
 have hown := hst.own n₀ w.heap.size (by omega) (Nat.le_refl _) (hn ▸ Own.next hG)
 obtain ⟨⟨ho1, ho2⟩, hb⟩ := hown
 have hb := hb hlow
 have hA2 := hA.below hb hst.ext
 obtain ⟨_, _, p3⟩ := hab.frame n₀ (by omega) hlow
 have isNew : ∀ b, μ b = none → μ' b ≠ none → n₀ ≤ b ∧ b < H₁.next := fun b h1 h2 => hn ▸ hst.dom b h1 h2
 have obsOld : ∀ b, ¬ (n₀ ≤ b ∧ b < H₁.next) → A'.obs.get b = A.obs.get b := fun b h => by rw [hj.obs, if_neg h]
 have famOld : ∀ b, ¬ (n₀ ≤ b ∧ b < H₁.next) → A'.fams.get b = A.fams.get b := fun b h => by rw [hj.fams, if_neg h]
 have obsNew : ∀ b, (n₀ ≤ b ∧ b < H₁.next) → A'.obs.get b = H₁.obs.get b := fun b h => by rw [hj.obs, if_pos h]
 have famNew : ∀ b, (n₀ ≤ b ∧ b < H₁.next) → A'.fams.get b = H₁.fams.get b := fun b h => by rw [hj.fams, if_pos h]
 have newFam : ∀ b, (n₀ ≤ b ∧ b < H₁.next) → ∀ c f g, H₁.obs.get b = some (.rw c f g) → n₀ ≤ f ∧ f < H₁.next := fun b hb c f g e => by
  have h1 := (hab.wf.obs b _ e).2 c f g rfl
  refine ⟨?_, by omega⟩
  rcases Nat.lt_or_ge f n₀ with hf | hf
  ·have := (hG.obs b _ (p3 b c f g e hf)).1; omega
  ·exact hf
 have oldFam : ∀ b c f g, A.obs.get b = some (.rw c f g) → ¬ (n₀ ≤ f ∧ f < H₁.next) := fun b c f g e hf => by
  obtain ⟨fm, q, _⟩ := hwA.gen b c f g e
  rw [(hj.none f hf.1 hf.2).2] at q; cases q
 have cellNew : ∀ b, (n₀ ≤ b ∧ b < H₁.next) → ∀ off, A'.cell? b off = H₁.cell? b off := fun b hb off => by
  unfold St.cell?
  rw [obsNew b hb]
  cases e : H₁.obs.get b with
  | none => rfl
  | some o =>
   cases o with
   | ro c => rfl
   | map es => rfl
   | rw c f g => dsimp only; rw [famNew f (newFam b hb c f g e)]
 have cellOld : ∀ b, ¬ (n₀ ≤ b ∧ b < H₁.next) → ∀ off, A'.cell? b off = A.cell? b off := fun b hb off => by
  unfold St.cell?
  rw [obsOld b hb]
  cases e : A.obs.get b with
  | none => rfl
  | some o =>
   cases o with
   | ro c => rfl
   | map es => rfl
   | rw c f g => dsimp only; rw [famOld f (oldFam b c f g e)]
 have rwNew : ∀ b, (n₀ ≤ b ∧ b < H₁.next) → A'.rwb b = H₁.rwb b := fun b hb => by
  unfold St.rwb
  rw [obsNew b hb]
  cases e : H₁.obs.get b with
  | none => rfl
  | some o =>
   cases o with
   | ro c => rfl
   | map es => rfl
   | rw c f g => dsimp only; rw [famNew f (newFam b hb c f g e)]
 have rwOld : ∀ b, ¬ (n₀ ≤ b ∧ b < H₁.next) → A'.rwb b = A.rwb b := fun b hb => by
  unfold St.rwb
  rw [obsOld b hb]
  cases e : A.obs.get b with
  | none => rfl
  | some o =>
   cases o with
   | ro c => rfl
   | map es => rfl
   | rw c f g => dsimp only; rw [famOld f (oldFam b c f g e)]
 have mapNew : ∀ b, (n₀ ≤ b ∧ b < H₁.next) → A'.map? b = H₁.map? b := fun b hb => by unfold St.map?; rw [obsNew b hb]
 have mapOld : ∀ b, ¬ (n₀ ≤ b ∧ b < H₁.next) → A'.map? b = A.map? b := fun b hb => by unfold St.map?; rw [obsOld b hb]
 have roNew : ∀ b, (n₀ ≤ b ∧ b < H₁.next) → A'.ro? b = none := fun b hb => by
  cases e : A'.ro? b with
  | none => rfl
  | some c =>
   have := ro_obs e
   rw [obsNew b hb] at this
   have := (hG.obs b _ (hab.ro b c this)).1
   omega
 have big1 : ∀ b c f fm C d z, (n₀ ≤ b ∧ b < H₁.next) → H₁.rwb b = some (c, f, fm) → μ' b = some (C, d, z) → w.heap.size ≤ C := fun b c f fm C d z hb e hm => by
  obtain ⟨g, e1, _⟩ := rwb_obs e
  exact ho1 b c f fm C d z e (newFam b hb c f g e1).1 hm
 have big2 : ∀ b es C d z, (n₀ ≤ b ∧ b < H₁.next) → H₁.map? b = some es → μ' b = some (C, d, z) → w.heap.size ≤ C := fun b es C d z hb e hm => ho2 b es C d z e hb.1 hm
 have small : ∀ b C d z, μ b = some (C, d, z) → C < w.heap.size := hA.bd
 have old1 : ∀ b c f fm, A.rwb b = some (c, f, fm) → ∃ x, μ b = some x := fun b c f fm e => let ⟨C, d, z, q, _⟩ := hA.rw b c f fm e; ⟨_, q⟩
 have old2 : ∀ b es, A.map? b = some es → ∃ C, μ b = some (C, 0, 0) := fun b es e => let ⟨C, _, _, q, _⟩ := hA.map b es e; ⟨C, q⟩
 refine ⟨⟨hst.rel.bd, ?_, ?_, ?_, ?_, ?_, ?_, hwA'.fams, ?_⟩, hb, ?_⟩
 ·intro b off v e
  by_cases hN : n₀ ≤ b ∧ b < H₁.next
  ·rw [cellNew b hN] at e; exact hst.rel.cells b off v e
  ·rw [cellOld b hN] at e
   obtain ⟨C, d, z, v', q1, q2, q3, q4⟩ := hA2.cells b off v e
   exact ⟨C, d, z, v', hst.le _ _ q1, q2, q3, q4.mono hst.le (.refl _)⟩
 ·intro b c f fm e
  by_cases hN : n₀ ≤ b ∧ b < H₁.next
  ·rw [rwNew b hN] at e; exact hst.rel.rw b c f fm e
  ·rw [rwOld b hN] at e
   obtain ⟨C, d, z, q1, q2⟩ := hA2.rw b c f fm e
   exact ⟨C, d, z, hst.le _ _ q1, q2⟩
 ·intro b c f fm C d z e hm b' d' z' hm'
  by_cases hN : n₀ ≤ b ∧ b < H₁.next
  ·rw [rwNew b hN] at e
   have hC := big1 b c f fm C d z hN e hm
   have hb' : n₀ ≤ b' ∧ b' < H₁.next := isNew b' (by
    cases hq : μ b' with
    | none => rfl
    | some x =>
     have := hst.le _ _ hq
     rw [hm'] at this; cases this
     have := small _ _ _ _ hq; omega) (by rw [hm']; simp)
   obtain ⟨_, k2⟩ := hst.rel.sep b c f fm C d z e hm b' d' z' hm'
   exact ⟨roNew b' hb', fun c' f' fm' e' => k2 c' f' fm' (by rw [rwNew b' hb'] at e'; exact e')⟩
  ·rw [rwOld b hN] at e
   obtain ⟨x, hx⟩ := old1 b c f fm e
   have hx' := hst.le _ _ hx
   rw [hm] at hx'; cases hx'
   have hC := small _ _ _ _ hx
   by_cases hb' : n₀ ≤ b' ∧ b' < H₁.next
   ·refine ⟨roNew b' hb', fun c' f' fm' e' => ?_⟩
    rw [rwNew b' hb'] at e'
    have := big1 b' c' f' fm' C d' z' hb' e' hm'; omega
   ·have hq : μ b' = some (C, d', z') := by
      cases hq : μ b' with
      | none => exact absurd (isNew b' hq (by rw [hm']; simp)) hb'
      | some x =>
       have := hst.le _ _ hq
       rw [hm'] at this; exact this.symm
    obtain ⟨k1, k2⟩ := hA.sep b c f fm C d z e hx b' d' z' hq
    refine ⟨?_, fun c' f' fm' e' => k2 c' f' fm' (by rw [rwOld b' hb'] at e'; exact e')⟩
    have : A'.ro? b' = A.ro? b' := by unfold St.ro?; rw [obsOld b' hb']
    rw [this]; exact k1
 ·intro b es e
  by_cases hN : n₀ ≤ b ∧ b < H₁.next
  ·rw [mapNew b hN] at e; exact hst.rel.map b es e
  ·rw [mapOld b hN] at e
   obtain ⟨C, es', cl, q1, q2, q3⟩ := hA2.map b es e
   exact ⟨C, es', cl, hst.le _ _ q1, q2, q3.mono hst.le (.refl _)⟩
 ·intro b b' es es' C z z' d d' e e' hm hm'
  have key : ∀ b es C d z, A'.map? b = some es → μ' b = some (C, d, z) → (H₁.map? b = some es ∧ (n₀ ≤ b ∧ b < H₁.next) ∧ w.heap.size ≤ C) ∨ (A.map? b = some es ∧ μ b = some (C, d, z) ∧ C < w.heap.size) := by
   intro b es C d z e hm
   by_cases hN : n₀ ≤ b ∧ b < H₁.next
   ·rw [mapNew b hN] at e; exact .inl ⟨e, hN, big2 b es C d z hN e hm⟩
   ·rw [mapOld b hN] at e
    obtain ⟨C', q⟩ := old2 b es e
    have := hst.le _ _ q
    rw [hm] at this; cases this
    exact .inr ⟨e, q, small _ _ _ _ q⟩
  rcases key b es C d z e hm with ⟨x1, x2, x3⟩ | ⟨x1, x2, x3⟩ <;> rcases key b' es' C d' z' e' hm' with ⟨y1, y2, y3⟩ | ⟨y1, y2, y3⟩
  ·exact hst.rel.mapsep b b' es es' C z z' d d' x1 y1 hm hm'
  ·omega
  ·omega
  ·exact hA.mapsep b b' es es' C z z' d d' x1 y1 x2 y2
 ·intro b o e
  exact ⟨(hwA'.obs b o e).1, fun c f g eo => by
   subst eo
   have := (hwA'.obs b _ e).2 c f g rfl
   have := (hwA'.obs b _ e).1
   omega⟩
 ·intro b c f g e fm ef
  obtain ⟨fm', q1, q2⟩ := hwA'.gen b c f g e
  rw [ef] at q1; cases q1; exact q2
 ·intro c n hn' ho
  refine ⟨fun b x f fm C d z e hc hm => ?_, fun b es C d z e hc hm => ?_⟩
  ·by_cases hN : n₀ ≤ b ∧ b < H₁.next
   ·rw [rwNew b hN] at e; exact Nat.le_trans hn' (big1 b x f fm C d z hN e hm)
   ·rw [rwOld b hN] at e
    obtain ⟨y, hy⟩ := old1 b x f fm e
    have := hst.le _ _ hy
    rw [hm] at this; cases this
    exact ho.1 b x f fm C d z e hc hy
  ·by_cases hN : n₀ ≤ b ∧ b < H₁.next
   ·rw [mapNew b hN] at e; exact Nat.le_trans hn' (big2 b es C d z hN e hm)
   ·rw [mapOld b hN] at e
    obtain ⟨y, hy⟩ := old2 b es e
    have := hst.le _ _ hy
    rw [hm] at this; cases this
    exact ho.2 b es _ _ _ e hc hy
end Go.AE
namespace Go.AE
open Go.RowKit (Below)
variable {μ : Mu} {H H' : St} {w : World} {P : Program} {E : Ev}
theorem evs_congr {t t' : Tm} : ∀ {xs : List Operand}, (∀ x ∈ xs, t.ev x = t'.ev x) → t.evs xs = t'.evs xs
 | [], _ => rfl
 | x :: xs, h => by
  simp only [Tm.evs]
  rw [h x List.mem_cons_self, evs_congr fun y hy => h y (List.mem_cons_of_mem _ hy)]
theorem evParts_congr {t t' : Tm} : ∀ {xs : List (Nat × Operand)}, (∀ x ∈ xs.map (·.2), t.ev x = t'.ev x) → t.evParts xs = t'.evParts xs
 | [], _ => rfl
 | x :: xs, h => by
  simp only [Tm.evParts]
  rw [h x.2 (by simp), evParts_congr fun y hy => h y (by simp only [List.map_cons]; exact List.mem_cons_of_mem _ hy)]
theorem evOpt_congr {t t' : Tm} {x : Option Operand} (h : ∀ y, x = some y → t.ev y = t'.ev y) : t.evOpt x = t'.evOpt x := by
 cases x with
 | none => rfl
 | some x => simp only [Tm.evOpt]; rw [h x rfl]
theorem op_congr {t t' : Tm} {o : Oper} (h : ∀ x ∈ o.op.operands, t.ev x = t'.ev x) : H.op P t o = H.op P t' o := by
 obtain ⟨dst, op, type, pos, after, guard⟩ := o
 cases op <;> simp only [Op.operands] at h <;> simp only [St.op]
 case build ty ps => rw [evParts_congr (t := t) (t' := t') fun x hx => h x (by simpa using hx)]
 case buildSlice ty n ps => rw [evParts_congr (t := t) (t' := t') fun x hx => h x (by simpa using hx)]
 case makeFunc fn f c => rw [evs_congr (t := t) (t' := t') fun x hx => h x (by simp; exact .inl (by simpa using hx)), evs_congr (t := t) (t' := t') (xs := c.toList) fun x hx => h x (by simp; exact .inr (by simpa using hx))]
 case slice ty x lo hi mx =>
  rw [h x (by simp), evOpt_congr (t := t) (t' := t') (x := lo) fun y hy => h y (by simp [hy]), evOpt_congr (t := t) (t' := t') (x := hi) fun y hy => h y (by simp [hy]), evOpt_congr (t := t) (t' := t') (x := mx) fun y hy => h y (by simp [hy])]
 case call c =>
  rw [evs_congr (t := t) (t' := t') (xs := c.args.toList) fun x hx => h x (by simp only [Call.operands]; simp; exact .inr (by simpa using hx))]
  cases hc : c.callee with
  | value f => dsimp only; rw [h f (by simp [Call.operands, hc])]
  | invoke _ _ => rfl
  | builtin _ => rfl
 case makeMap ty r => cases r <;> rfl
 case pick c x y => rw [h c (by simp), h x (by simp), h y (by simp)]
 case store ty x y => rw [h x (by simp), h y (by simp)]
 case binOp op ty x y yt => rw [h x (by simp), h y (by simp)]
 case makeSlice ty x y => rw [h x (by simp), h y (by simp)]
 case indexAddr ty x y => rw [h x (by simp), h y (by simp)]
 case index ty x y => rw [h x (by simp), h y (by simp)]
 case lookup ty x y ok => rw [h x (by simp), h y (by simp)]
 case mapUpdate ty m k x => rw [h m (by simp), h k (by simp), h x (by simp)]
 all_goals first
  | rfl
  | (rename_i x; rw [h x (by simp)])
  | (rename_i x _; rw [h x (by simp)])
theorem opStep_congr {t t' : Tm} {o : Oper} (h : ∀ x ∈ o.op.operands, t.ev x = t'.ev x) : zDA E P t H o = zDA E P t' H o := by
 unfold zDA; rw [op_congr h]
theorem blind_op {t : Tm} {o : Oper} (hb : blindOp o.op = true) {r : ARes} (h : H.op P t o = some (r, H')) (A : St) : A.op P t o = some (r, A) := by
 obtain ⟨dst, op, type, pos, after, guard⟩ := o
 have kp : ∀ {x : Option Value}, keep H x = some (r, H') → keep A x = some (r, A) := by
  intro x hx
  cases x with
  | none => cases hx
  | some v => simp only [keep, Option.some.injEq, Prod.mk.injEq] at hx ⊢; exact ⟨hx.1, trivial⟩
 cases op <;> simp only [blindOp] at hb <;> try (cases hb; done)
 all_goals simp only [St.op] at h ⊢
 case makeFunc fn f c =>
  split at h
  ·simp only [Option.some.injEq, Prod.mk.injEq] at h ⊢; exact ⟨h.1, trivial⟩
  ·cases h
 all_goals first
  | exact kp h
  | (split at h <;> first | exact kp h | cases h)
theorem op_notSelect {t : Tm} {o : Oper} {x : ARes × St} (h : H.op P t o = some x) (cs : Array SelectCase) (b : Bool) : o.op ≠ .select cs b := by
 intro e
 unfold St.op at h
 rw [e] at h
 cases h
def pickL (m : Tr Value) : List Nat → Tr Value
 | [] => .nil
 | k :: ks => match m.get k with | some v => (pickL m ks).set k v | none => pickL m ks
theorem get_pickL (m : Tr Value) : ∀ (K : List Nat) (k : Nat), (pickL m K).get k = if k ∈ K then m.get k else none
 | [], k => by simp [pickL]
 | x :: K, k => by
  simp only [pickL]
  cases hx : m.get x with
  | none =>
   dsimp only
   rw [get_pickL m K k]
   by_cases e : k = x
   ·subst e; simp [hx]
   ·simp [e]
  | some v =>
   dsimp only
   rw [Tr.get_set, get_pickL m K k]
   by_cases e : k = x
   ·subst e; simp [hx]
   ·simp [e]
def Tm.only (K : List Nat) (t : Tm) : Tm := ⟨t.n, pickL t.m K⟩
def onlyA (K : List Nat) (a : Act) : Act := { a with tmps := Array.ofFn (n := a.tmps.size) fun i => if i.1 ∈ K then a.tmps[i] else undef }
theorem onlyA_getD (K : List Nat) (a : Act) (k : Nat) : (onlyA K a).tmps.getD k undef = if k ∈ K then a.tmps.getD k undef else undef := by
 simp only [onlyA, Array.getD_eq_getD_getElem?, Array.getElem?_ofFn]
 by_cases hk : k < a.tmps.size
 ·rw [dif_pos hk]
  by_cases hK : k ∈ K
  ·simp [hK, hk]
  ·simp [hK]
 ·rw [dif_neg hk]
  simp [hk]
theorem onlyA_get (K : List Nat) (a : Act) {k : Nat} (hk : k ∈ K) : (onlyA K a).tmps[k]? = a.tmps[k]? := by
 simp only [onlyA, Array.getElem?_ofFn]
 by_cases h : k < a.tmps.size
 ·rw [dif_pos h]; simp [hk, h]
 ·rw [dif_neg h]; simp [h]
theorem only_rel {K : List Nat} {t : Tm} {a : Act} (hn : t.n = a.tmps.size) (h : ∀ k ∈ K, VR w μ ((t.m.get k).getD undef) (a.tmps.getD k undef)) : TmR w μ (t.only K) (onlyA K a).tmps := by
 refine ⟨by simp [Tm.only, onlyA, hn], fun k => ?_⟩
 rw [onlyA_getD]
 show VR w μ (((pickL t.m K).get k).getD undef) _
 rw [get_pickL]
 by_cases hk : k ∈ K
 ·rw [if_pos hk, if_pos hk]; exact h k hk
 ·rw [if_neg hk, if_neg hk]; exact .scal zB7
theorem only_ev {K : List Nat} {t : Tm} {x : Operand} (h : ∀ k, x = .tmp k → k ∈ K) : (t.only K).ev x = t.ev x := by
 cases x with
 | tmp k =>
  have hk := h k rfl
  simp only [Tm.ev, Tm.only]
  rw [get_pickL, if_pos hk]
 | _ => rfl
theorem onlyA_eval {K : List Nat} {a : Act} {x : Operand} (h : ∀ k, x = .tmp k → k ∈ K) : (onlyA K a).eval x = a.eval x := by
 cases x with
 | tmp k =>
  show (onlyA K a).tmps.getD k undef = a.tmps.getD k undef
  rw [onlyA_getD, if_pos (h k rfl)]
 | _ => rfl
theorem looks_op {ops : Array Oper} {o : Oper} {x : Operand} (hx : x ∈ o.op.operands) (k : Nat) (e : x = .tmp k) : k ∈ o.looksAt ops := by
 subst e
 exact List.mem_append_left _ (List.mem_filterMap.2 ⟨.tmp k, by simpa using hx, rfl⟩)
theorem looks_guard {ops : Array Oper} {o : Oper} {g : Nat} {b : Bool} {d : Nat} (hg : o.guard = some (g, b)) (hd : (ops[g]?).bind (·.dst) = some d) : d ∈ o.looksAt ops := by
 unfold Oper.looksAt
 rw [hg]
 simp [hd]
theorem wanted_only {ops : Array Oper} {o : Oper} {t : Tm} {a : Act} (hn : t.n = a.tmps.size) (h : ∀ k ∈ o.looksAt ops, VR w μ ((t.m.get k).getD undef) (a.tmps.getD k undef)) :
    Region.wanted o (yielded ops a.tmps) = zCA ops t o := by
 have h1 := wanted_eq (only_rel hn h) ops o
 have h2 : Region.wanted o (yielded ops (onlyA (o.looksAt ops) a).tmps) = Region.wanted o (yielded ops a.tmps) := by
  unfold Region.wanted
  cases hg : o.guard with
  | none => rfl
  | some gb =>
   obtain ⟨g, b⟩ := gb
   dsimp only
   unfold yielded
   cases hd : (ops[g]?).bind (·.dst) with
   | none => rfl
   | some d => dsimp only [Option.bind_some]; rw [onlyA_get _ _ (looks_guard hg hd)]
 have h3 : zCA ops (t.only (o.looksAt ops)) o = zCA ops t o := by
  unfold zCA
  cases hg : o.guard with
  | none => rfl
  | some gb =>
   obtain ⟨g, b⟩ := gb
   dsimp only
   cases hd : (ops[g]?).bind (·.dst) with
   | none => rfl
   | some d =>
    dsimp only [Tm.only]
    rw [get_pickL, if_pos (looks_guard hg hd)]
 rw [← h2, h1, h3]
def Yld (P : Program) (s : Sem Next) (w : World) (post : Value → World → Prop) : Prop :=
 match s.run P w with
 | .ok (.value v) w' => post v w'
 | .ok .skip w' => post undef w'
 | .ok (.enter f args) w' => Calls P f args w' fun e w'' => ∃ v, e = .returned v ∧ post v w''
 | _ => False
theorem wp_of_yld {o : Oper} {a : Act} {post : Value → World → Prop} {K : Act → World → Prop} {Q : Exit → Act → World → Prop} (h : Yld P (execOp a.eval o) w post)
    (hK : ∀ v w', post v w' → K (a.put o.dst v) w') : o.wp P a w K Q := by
 unfold Oper.wp
 unfold Yld at h
 generalize (execOp a.eval o).run P w = r at h
 cases r with
 | ok n w' =>
  cases n <;> first
   | exact hK _ _ h
   | (refine Calls.mono h ?_
      rintro e w'' ⟨v, rfl, hp⟩
      exact hK v w'' hp)
   | exact h.elim
 | halt x w' => exact h.elim
theorem opStep_yld {n : Nat} (hE : EvOk P n E) (hR : Rel μ H w) (hW : WF H) (hF : Free μ H H') {t : Tm} {a : Act} (hT : TmR w μ t a.tmps) {o : Oper} {v : Value}
    (h : zDA E P t H o = some (v, H')) : Yld P (execOp a.eval o) w fun v' w' => ∃ μ', Step μ H w μ' H' w' ∧ VR w' μ' v v' := by
 unfold zDA at h
 split at h
 ·rename_i v0 H0 hop
  simp only [Option.some.injEq, Prod.mk.injEq] at h; obtain ⟨rfl, rfl⟩ := h
  obtain ⟨r', w', μ', hrun, hst, hn⟩ := op_sound hR hT hop hF
  unfold Yld
  rw [hrun]
  cases r' with
  | value v' => exact ⟨μ', hst, hn⟩
  | skip =>
   have hn : v0 = undef := hn
   subst hn
   exact ⟨μ', hst, .scal zB7⟩
  | _ => exact hn.elim
 ·rename_i f args H0 hop
  have a0 := op_abs hop hW
  have a1 := hE.abs.call h a0.wf
  obtain ⟨r', w', μ', hrun, hst, hn⟩ := op_sound hR hT hop (hF.left a1.nx)
  unfold Yld
  rw [hrun]
  cases r' with
  | enter g arr =>
   obtain ⟨rfl, hvs⟩ := hn
   refine Calls.mono (hE.call h hst.rel a0.wf (hF.right hst) hvs) ?_
   rintro e w'' ⟨v', μ'', rfl, h2, h3⟩
   exact ⟨v', rfl, μ'', hst.trans h2, h3⟩
  | _ => exact hn.elim
 ·cases h
theorem opStep_notSelect {t : Tm} {o : Oper} {x : Value × St} (h : zDA E P t H o = some x) (cs : Array SelectCase) (b : Bool) : o.op ≠ .select cs b := by
 unfold zDA at h
 split at h
 ·rename_i hop; exact op_notSelect hop cs b
 ·rename_i hop; exact op_notSelect hop cs b
 ·cases h
theorem opStep_only {n : Nat} (hE : EvOk P n E) (hR : Rel μ H w) (hW : WF H) (hF : Free μ H H') {ops : Array Oper} {t : Tm} {a : Act} {o : Oper} (hn : t.n = a.tmps.size)
    (hT : ∀ k ∈ o.looksAt ops, VR w μ ((t.m.get k).getD undef) (a.tmps.getD k undef)) {v : Value}
    (h : zDA E P t H o = some (v, H')) : Yld P (execOp a.eval o) w fun v' w' => ∃ μ', Step μ H w μ' H' w' ∧ VR w' μ' v v' := by
 have e1 : zDA E P (t.only (o.looksAt ops)) H o = some (v, H') := by
  rw [opStep_congr (fun x hx => only_ev fun k e => looks_op hx k e)]; exact h
 have := opStep_yld hE hR hW hF (only_rel hn hT) e1
 rwa [execOp_congr o (opStep_notSelect h) (ρ' := a.eval) (fun x hx => onlyA_eval fun k e => looks_op hx k e)] at this
end Go.AE
namespace Go.AE
open Go.RowKit (Below)
variable {P : Program} {E : Ev} {ops : Array Oper}
inductive Kd where
 | free | silent | loud | write
 deriving DecidableEq
structure Rec where
 o : Oper
 b : Nat
 t : Tm
 cur : St
 k : Kd
 R : St
 v : Value
 H1 : St
 t1 : Tm
 C1 : St
def NoWrite (L : List Rec) (i : Nat) : Prop := ∀ m q, L[m]? = some q → i ≤ m → q.k ≠ .write
def SeenAt (L : List Rec) (r : Rec) : Prop :=
 ∃ i, ((i = L.length ∧ r.R = r.cur) ∨ ∃ q, L[i]? = some q ∧ r.R = q.cur) ∧ NoWrite L i ∧
  ∀ m q, L[m]? = some q → m < i → q.k = .loud → NoWrite L m → r.b.testBit m = true
structure GoodAt (P : Program) (E : Ev) (ops : Array Oper) (L : List Rec) (r : Rec) : Prop where
 op : ops[L.length]? = some r.o
 bit : (Region.before ops)[L.length]? = some r.b
 wf : WF r.cur
 wf1 : WF r.C1
 nx : r.cur.next ≤ r.C1.next
 put : r.t.put r.o.dst r.v = some r.t1
 free : r.k = .free → r.C1 = r.cur ∧ ((zCA ops r.t r.o = false ∧ r.v = undef) ∨ (zCA ops r.t r.o = true ∧ blindOp r.o.op = true ∧ ∃ Hx, r.cur.op P r.t r.o = some (.val r.v, Hx)))
 act : r.k ≠ .free → zCA ops r.t r.o = true ∧ SeenAt L r ∧ WF r.R ∧ r.R.next ≤ r.cur.next ∧ zDA E P r.t (at_ r.R r.cur) r.o = some (r.v, r.H1)
 bar : r.k ≠ .free → ∀ m q, L[m]? = some q → q.k = .write → r.b.testBit m = true
 silent : r.k = .silent → r.H1.low = r.cur.next ∧ r.H1.next = r.cur.next ∧ r.C1 = r.cur
 loud : r.k = .loud → r.H1.low = r.cur.next ∧ r.C1.next = r.H1.next ∧ r.C1.low = r.cur.low ∧ (∀ b, b < r.cur.next → r.C1.obs.get b = r.cur.obs.get b ∧ r.C1.fams.get b = r.cur.fams.get b) ∧ ∀ b, r.cur.next ≤ b → r.C1.obs.get b = r.H1.obs.get b ∧ r.C1.fams.get b = r.H1.fams.get b
 write : r.k = .write → r.R = r.cur ∧ r.C1 = { r.H1 with low := min r.cur.low r.H1.low } ∧
  (∀ m q, L[m]? = some q → q.k = .loud → NoWrite L m → r.b.testBit m = true) ∧
  ∀ m q, L[m]? = some q → q.k = .silent → r.b.testBit m = true ∨ ∃ H2, zDA E P q.t (at_ r.C1 r.C1) q.o = some (q.v, H2) ∧ H2.next = r.C1.next ∧ H2.low = r.C1.next
inductive Good (P : Program) (E : Ev) (ops : Array Oper) (t₀ : Tm) (H₀ : St) : List Rec → Tm → St → Prop
 | nil : WF H₀ → Good P E ops t₀ H₀ [] t₀ H₀
 | snoc {L : List Rec} {r : Rec} : Good P E ops t₀ H₀ L r.t r.cur → GoodAt P E ops L r → Good P E ops t₀ H₀ (L ++ [r]) r.t1 r.C1
variable {t₀ t' : Tm} {H₀ H' : St}
theorem Good.wf {L : List Rec} {t : Tm} {H : St} (h : Good P E ops t₀ H₀ L t H) : WF H := by
 cases h with
 | nil h => exact h
 | snoc _ h => exact h.wf1
theorem snoc_get {α : Type} {L : List α} {r q : α} {m : Nat} : (L ++ [r])[m]? = some q ↔ (L[m]? = some q ∨ (m = L.length ∧ q = r)) := by
 rcases Nat.lt_trichotomy m L.length with h | h | h
 ·rw [List.getElem?_append_left h]
  exact ⟨.inl, fun h' => h'.elim id fun x => by omega⟩
 ·subst h
  simp only [List.getElem?_append_right (Nat.le_refl _), Nat.sub_self, List.getElem?_cons_zero, Option.some.injEq]
  constructor
  ·intro h; exact .inr ⟨trivial, h.symm⟩
  ·rintro (h | h)
   ·simp at h
   ·exact h.2.symm
 ·have : (L ++ [r])[m]? = none := by simp; omega
  rw [this]
  constructor
  ·intro h'; cases h'
  ·rintro (h' | h')
   ·have : L[m]? = none := by simp; omega
    rw [this] at h'; cases h'
   ·omega
theorem get_lt {α : Type} {L : List α} {q : α} {m : Nat} (h : L[m]? = some q) : m < L.length := (List.getElem?_eq_some_iff.1 h).1
theorem NoWrite.snoc {L : List Rec} {r : Rec} {i : Nat} : NoWrite (L ++ [r]) i ↔ (NoWrite L i ∧ (i ≤ L.length → r.k ≠ .write)) := by
 constructor
 ·intro h
  exact ⟨fun m q hq => h m q (snoc_get.2 (.inl hq)), fun hi => h L.length r (snoc_get.2 (.inr ⟨rfl, rfl⟩)) hi⟩
 ·rintro ⟨h1, h2⟩ m q hq hm
  rcases snoc_get.1 hq with hq | ⟨rfl, rfl⟩
  ·exact h1 m q hq hm
  ·exact h2 hm
structure LoudsOk (L : List Rec) (louds : List (Nat × St)) : Prop where
 all : ∀ m q, L[m]? = some q → q.k = .loud → NoWrite L m → (m, q.cur) ∈ louds
 at_ : ∀ x ∈ louds, ∃ q, L[x.1]? = some q ∧ q.cur = x.2 ∧ NoWrite L x.1
 sorted : louds.Pairwise fun x y => x.1 < y.1
theorem restrict_none {b : Nat} : ∀ {louds : List (Nat × St)}, restrict b louds = some none → ∀ x ∈ louds, b.testBit x.1 = true
 | [], _, x, hx => by cases hx
 | (i, Hi) :: rest, h, x, hx => by
  simp only [restrict] at h
  cases hb : b.testBit i with
  | true =>
   rw [hb] at h; simp only [cond_true] at h
   rcases List.mem_cons.1 hx with rfl | hx
   ·exact hb
   ·exact restrict_none h x hx
  | false =>
   rw [hb] at h; simp only [cond_false] at h
   have := (zBS h).2
   cases this
theorem restrict_some {b : Nat} {R : St} : ∀ {louds : List (Nat × St)}, restrict b louds = some (some R) → ∃ pre i suf, louds = pre ++ (i, R) :: suf ∧ ∀ x ∈ pre, b.testBit x.1 = true
 | [], h => by cases h
 | (i, Hi) :: rest, h => by
  simp only [restrict] at h
  cases hb : b.testBit i with
  | true =>
   rw [hb] at h; simp only [cond_true] at h
   obtain ⟨pre, j, suf, rfl, hp⟩ := restrict_some h
   refine ⟨(i, Hi) :: pre, j, suf, rfl, fun x hx => ?_⟩
   rcases List.mem_cons.1 hx with rfl | hx
   ·exact hb
   ·exact hp x hx
  | false =>
   rw [hb] at h; simp only [cond_false] at h
   have := (zBS h).2
   simp only [Option.some.injEq] at this; subst this
   exact ⟨[], i, rest, rfl, fun x hx => by cases hx⟩
theorem seen_of {L : List Rec} {louds : List (Nat × St)} (hL : LoudsOk L louds) {r : Rec} {R : Option St} (h : restrict r.b louds = some R) (hR : r.R = R.getD r.cur) : SeenAt L r := by
 cases R with
 | none =>
  refine ⟨L.length, .inl ⟨rfl, hR⟩, fun m q hq hm => ?_, fun m q hq hm hk hn => ?_⟩
  ·have := get_lt hq; omega
  ·exact restrict_none h _ (hL.all m q hq hk hn)
 | some R =>
  obtain ⟨pre, i, suf, rfl, hp⟩ := restrict_some h
  obtain ⟨q, h1, h2, h3⟩ := hL.at_ (i, R) (by simp)
  refine ⟨i, .inr ⟨q, h1, by rw [hR]; exact h2.symm⟩, h3, fun m q' hq hm hk hn => ?_⟩
  have hmem := hL.all m q' hq hk hn
  rcases List.mem_append.1 hmem with hmem | hmem
  ·exact hp _ hmem
  ·rcases List.mem_cons.1 hmem with e | hmem
   ·simp only [Prod.mk.injEq] at e; omega
   ·have := (List.pairwise_append.1 hL.sorted).2.1
    have := (List.pairwise_cons.1 this).1 _ hmem
    simp only at this; omega
theorem veq1_eq {a b : Value} (h : veq1 a b = true) : a = b := by
 unfold veq1 at h
 split at h
 ·rename_i x y; cases x <;> cases y <;> first | rfl | cases h
 ·simp only [Bool.and_eq_true, beq_iff_eq] at h; rw [h.1, h.2]
 ·rename_i x y; rw [beq_ba _ _ h]
 ·rfl
 ·simp only [beq_iff_eq] at h; rw [h]
 ·simp only [Bool.and_eq_true] at h; rw [Nat.eq_of_beq_eq_true h.1, Nat.eq_of_beq_eq_true h.2]
 ·simp only [Bool.and_eq_true, beq_iff_eq] at h; rw [h.1.1, Nat.eq_of_beq_eq_true h.1.2, Nat.eq_of_beq_eq_true h.2]
 ·rfl
 ·rw [Nat.eq_of_beq_eq_true h]
 ·rfl
 ·rfl
 ·simp only [Bool.and_eq_true, beq_iff_eq, Array.isEmpty_iff] at h
  rw [h.1.1.1.1, h.1.1.1.2, h.1.1.2, h.1.2, h.2]
 ·cases h
theorem veqL_eq : ∀ {a b : List Value}, veqL a b = true → a = b
 | [], [], _ => rfl
 | a :: l, b :: m, h => by
  simp only [veqL, Bool.and_eq_true] at h
  rw [veq1_eq h.1, veqL_eq h.2]
 | [], _ :: _, h => by cases h
 | _ :: _, [], h => by cases h
theorem veq_eq {a b : Value} (h : veq a b = true) : a = b := by
 unfold veq at h
 split at h
 ·rw [Array.ext' (veqL_eq h)]
 ·rw [Array.ext' (veqL_eq h)]
 ·exact veq1_eq h
structure Ctx (ops : Array Oper) (L : List Rec) (l : List Oper) (bs : List Nat) (cur : St) (pend : List Pend) (louds : List (Nat × St)) : Prop where
 hl : ops.toList.drop L.length = l
 hb : (Region.before ops).toList.drop L.length = bs
 pends : ∀ m q, L[m]? = some q → q.k = .silent → ⟨m, q.o, q.t, q.v⟩ ∈ pend
 loudsOk : LoudsOk L louds
 subs : AE.Louds louds cur
 bars : ∀ m q, L[m]? = some q → q.k = .write → ∀ x ∈ l.zip bs, (blindOp x.1.op || x.2.testBit m) = true
theorem drop_cons {α : Type} {l : List α} {n : Nat} {x : α} {xs : List α} (h : l.drop n = x :: xs) : l[n]? = some x ∧ l.drop (n + 1) = xs := by
 constructor
 ·have : (l.drop n)[0]? = some x := by rw [h]; rfl
  simpa using this
 ·have : (l.drop n).drop 1 = xs := by rw [h]; rfl
  simpa [List.drop_drop] using this
theorem evDraw_good (hE : EvAbs E) : ∀ {l : List Oper} {bs : List Nat} {L : List Rec} {t : Tm} {cur : St} {pend : List Pend} {louds : List (Nat × St)},
    evDraw E P ops L.length l bs t cur pend louds = some (t', H') → Good P E ops t₀ H₀ L t cur → Ctx ops L l bs cur pend louds → ∃ L', Good P E ops t₀ H₀ L' t' H' ∧ L'.length = ops.size
 | [], bs, L, t, cur, pend, louds, h, hg, hc => by
  simp only [evDraw, Option.some.injEq, Prod.mk.injEq] at h
  obtain ⟨rfl, rfl⟩ := h
  refine ⟨L, hg, ?_⟩
  have h1 : ops.size ≤ L.length := by
   have := hc.hl
   rw [List.drop_eq_nil_iff] at this
   simpa using this
  have h2 : ∀ {L t H}, Good P E ops t₀ H₀ L t H → L.length ≤ ops.size := by
   intro L t H hg
   cases hg with
   | nil => simp
   | snoc _ ha => rw [List.length_append]; have := (Array.getElem?_eq_some_iff.1 ha.op).1; simp; omega
  have := h2 hg
  omega
 | o :: l, [], L, t, cur, pend, louds, h, hg, hc => by simp only [evDraw] at h; cases h
 | o :: l, b :: bs, L, t, cur, pend, louds, h, hg, hc => by
  have hw := hg.wf
  obtain ⟨ho, hl'⟩ := drop_cons hc.hl
  obtain ⟨hbit, hb'⟩ := drop_cons hc.hb
  rw [Array.getElem?_toList] at ho hbit
  have hlen : ∀ r : Rec, (L ++ [r]).length = L.length + 1 := fun r => by simp
  have hbar : blindOp o.op = false → ∀ m q, L[m]? = some q → q.k = .write → b.testBit m = true := fun hbl m q hq hk => by
   have := hc.bars m q hq hk (o, b) (by simp)
   simpa [hbl] using this
  have bars' : ∀ m q, L[m]? = some q → q.k = .write → ∀ x ∈ l.zip bs, (blindOp x.1.op || x.2.testBit m) = true := fun m q hq hk x hx => hc.bars m q hq hk x (by simp [hx])
  have goFree : ∀ v t1, evDraw E P ops (L.length + 1) l bs t1 cur pend louds = some (t', H') → t.put o.dst v = some t1 →
      ((zCA ops t o = false ∧ v = undef) ∨ (zCA ops t o = true ∧ blindOp o.op = true ∧ ∃ Hx, cur.op P t o = some (.val v, Hx))) → ∃ L', Good P E ops t₀ H₀ L' t' H' ∧ L'.length = ops.size := by
   intro v t1 h hput hv
   let r : Rec := ⟨o, b, t, cur, .free, cur, v, cur, t1, cur⟩
   have hga : GoodAt P E ops L r := ⟨ho, hbit, hw, hw, Nat.le_refl _, hput, fun _ => ⟨rfl, hv⟩, fun h => absurd rfl h, fun h => absurd rfl h, fun h => (by cases h), fun h => (by cases h), fun h => (by cases h)⟩
   refine evDraw_good (L := L ++ [r]) hE (by rw [hlen]; exact h) (.snoc (r := r) hg hga) ⟨by rw [hlen]; exact hl', by rw [hlen]; exact hb', ?_, ⟨?_, ?_, hc.loudsOk.sorted⟩, hc.subs, ?_⟩
   ·intro m q hq hk
    rcases snoc_get.1 hq with hq | ⟨_, rfl⟩
    ·exact hc.pends m q hq hk
    ·cases hk
   ·intro m q hq hk hn
    rcases snoc_get.1 hq with hq | ⟨_, rfl⟩
    ·exact hc.loudsOk.all m q hq hk (NoWrite.snoc.1 hn).1
    ·cases hk
   ·intro x hx
    obtain ⟨q, h1, h2, h3⟩ := hc.loudsOk.at_ x hx
    exact ⟨q, snoc_get.2 (.inl h1), h2, NoWrite.snoc.2 ⟨h3, fun _ h => (by cases h)⟩⟩
   ·intro m q hq hk
    rcases snoc_get.1 hq with hq | ⟨_, rfl⟩
    ·exact bars' m q hq hk
    ·cases hk
  simp only [evDraw] at h
  cases hwa : zCA ops t o with
  | false =>
   rw [hwa] at h; simp only [cond_false] at h
   split at h
   case h_2 => cases h
   rename_i t1 ht1
   exact goFree undef t1 h ht1 (.inl ⟨hwa, rfl⟩)
  | true =>
   rw [hwa] at h; simp only [cond_true] at h
   cases hbl : blindOp o.op with
   | true =>
    rw [hbl] at h; simp only [cond_true] at h
    split at h
    case h_2 => cases h
    rename_i v Hx hop
    split at h
    case h_2 => cases h
    rename_i t1 ht1
    exact goFree v t1 h ht1 (.inr ⟨hwa, hbl, Hx, hop⟩)
   | false =>
    rw [hbl] at h; simp only [cond_false] at h
    split at h
    case h_2 => cases h
    rename_i R hR
    split at h
    case h_2 => cases h
    rename_i v H1 hs
    split at h
    case h_2 => cases h
    rename_i t1 ht1
    have hRw : WF (R.getD cur) ∧ (R.getD cur).next ≤ cur.next ∧ Sub (R.getD cur) cur := by
     cases R with
     | none => exact ⟨hw, Nat.le_refl _, Sub.refl _⟩
     | some R => obtain ⟨i, hi⟩ := restrict_mem hR; exact hc.subs _ hi
    have ha : Abs (at_ (R.getD cur) cur) H1 := opStep_abs hE hs
    have a1 := ha (wf_at hRw.1 hRw.2.1)
    have hs' : zDA E P t (at_ (R.getD cur) cur) o = some (v, H1) := hs
    cases hlow : Nat.beq H1.low cur.next with
    | true =>
     have hlow' := Nat.eq_of_beq_eq_true hlow
     rw [hlow] at h; simp only [cond_true] at h
     cases hnx : Nat.beq H1.next cur.next with
     | true =>
      have hnx' := Nat.eq_of_beq_eq_true hnx
      rw [hnx] at h; simp only [cond_true] at h
      let r : Rec := ⟨o, b, t, cur, .silent, R.getD cur, v, H1, t1, cur⟩
      have hga : GoodAt P E ops L r := ⟨ho, hbit, hw, hw, Nat.le_refl _, ht1, fun h => (by cases h), fun _ => ⟨hwa, seen_of hc.loudsOk (r := r) hR rfl, hRw.1, hRw.2.1, hs'⟩, fun _ => hbar hbl, fun _ => ⟨hlow', hnx', rfl⟩, fun h => (by cases h), fun h => (by cases h)⟩
      refine evDraw_good (L := L ++ [r]) hE (by rw [hlen]; exact h) (.snoc (r := r) hg hga) ⟨by rw [hlen]; exact hl', by rw [hlen]; exact hb', ?_, ⟨?_, ?_, hc.loudsOk.sorted⟩, hc.subs, ?_⟩
      ·intro m q hq hk
       rcases snoc_get.1 hq with hq | ⟨rfl, rfl⟩
       ·exact List.mem_cons_of_mem _ (hc.pends m q hq hk)
       ·exact List.mem_cons_self
      ·intro m q hq hk hn
       rcases snoc_get.1 hq with hq | ⟨_, rfl⟩
       ·exact hc.loudsOk.all m q hq hk (NoWrite.snoc.1 hn).1
       ·cases hk
      ·intro x hx
       obtain ⟨q, h1, h2, h3⟩ := hc.loudsOk.at_ x hx
       exact ⟨q, snoc_get.2 (.inl h1), h2, NoWrite.snoc.2 ⟨h3, fun _ h => (by cases h)⟩⟩
      ·intro m q hq hk
       rcases snoc_get.1 hq with hq | ⟨_, rfl⟩
       ·exact bars' m q hq hk
       ·cases hk
     | false =>
      rw [hnx] at h; simp only [cond_false] at h
      have goLoud : ∀ C1 : St, WF C1 → C1.next = H1.next → C1.low = cur.low → Sub cur C1 → (∀ b, b < cur.next → C1.obs.get b = cur.obs.get b ∧ C1.fams.get b = cur.fams.get b) → (∀ b, cur.next ≤ b → C1.obs.get b = H1.obs.get b ∧ C1.fams.get b = H1.fams.get b) → cur.next ≤ C1.next →
          evDraw E P ops (L.length + 1) l bs t1 C1 pend (louds ++ [(L.length, cur)]) = some (t', H') → ∃ L', Good P E ops t₀ H₀ L' t' H' ∧ L'.length = ops.size := by
       intro C1 w1 n1 l1 s1 f1 e1 nx1 h
       let r : Rec := ⟨o, b, t, cur, .loud, R.getD cur, v, H1, t1, C1⟩
       have hga : GoodAt P E ops L r := ⟨ho, hbit, hw, w1, nx1, ht1, fun h => (by cases h), fun _ => ⟨hwa, seen_of hc.loudsOk (r := r) hR rfl, hRw.1, hRw.2.1, hs'⟩, fun _ => hbar hbl, fun h => (by cases h), fun _ => ⟨hlow', n1, l1, f1, e1⟩, fun h => (by cases h)⟩
       refine evDraw_good (L := L ++ [r]) hE (by rw [hlen]; exact h) (.snoc (r := r) hg hga) ⟨by rw [hlen]; exact hl', by rw [hlen]; exact hb', ?_, ⟨?_, ?_, ?_⟩, hc.subs.snoc hw s1 nx1, ?_⟩
       ·intro m q hq hk
        rcases snoc_get.1 hq with hq | ⟨rfl, rfl⟩
        ·exact hc.pends m q hq hk
        ·cases hk
       ·intro m q hq hk hn
        rcases snoc_get.1 hq with hq | ⟨rfl, rfl⟩
        ·exact List.mem_append_left _ (hc.loudsOk.all m q hq hk (NoWrite.snoc.1 hn).1)
        ·simp [r]
       ·intro x hx
        rcases List.mem_append.1 hx with hx | hx
        ·obtain ⟨q, h1, h2, h3⟩ := hc.loudsOk.at_ x hx
         exact ⟨q, snoc_get.2 (.inl h1), h2, NoWrite.snoc.2 ⟨h3, fun _ h => (by cases h)⟩⟩
        ·simp only [List.mem_singleton] at hx; subst hx
         exact ⟨r, snoc_get.2 (.inr ⟨rfl, rfl⟩), rfl, NoWrite.snoc.2 ⟨fun m q hq hm => by have := get_lt hq; simp only at hm; omega, fun _ h => (by cases h)⟩⟩
       ·refine List.pairwise_append.2 ⟨hc.loudsOk.sorted, by simp, fun x hx y hy => ?_⟩
        simp only [List.mem_singleton] at hy; subst hy
        obtain ⟨q, h1, _⟩ := hc.loudsOk.at_ x hx
        exact get_lt h1
       ·intro m q hq hk
        rcases snoc_get.1 hq with hq | ⟨_, rfl⟩
        ·exact bars' m q hq hk
        ·cases hk
      cases R with
      | none =>
       have a0 := same_abs (l := cur.low) ha hw (Nat.le_refl _) (fun c h1 _ => by omega)
       obtain ⟨p1, p2, _⟩ := a1.frame cur.next (Nat.le_refl _) (by omega)
       have hsub : Sub cur { H1 with low := cur.low } := by
        exact ⟨fun b o h => (p1 b (hw.obs b o h).1).trans h, fun f fm h => (p2 f (hw.fams f fm h)).trans h⟩
       exact goLoud _ a0.wf rfl rfl hsub (fun b hb => ⟨p1 b hb, p2 b hb⟩) (fun b _ => ⟨rfl, rfl⟩) a0.nx h
      | some R =>
       have a0 := merge_abs hw hRw.1 hRw.2.1 hRw.2.2 ha hlow'
       obtain ⟨e1, e2, e3, e4⟩ := merge_spec hw a1.nx a1.wf
       exact goLoud _ a0.wf e1 e2 (sub_merge hw hRw.1 hRw.2.1 ha) (fun b hb => ⟨by rw [e3, if_neg (by omega)], by rw [e4, if_neg (by omega)]⟩) (fun b hb => ⟨by rw [e3, if_pos hb], by rw [e4, if_pos hb]⟩) a0.nx h
    | false =>
     rw [hlow] at h; simp only [cond_false] at h
     obtain ⟨hcd, h2⟩ := zBS h
     clear h
     simp only [Bool.and_eq_true, List.all_eq_true] at hcd
     obtain ⟨⟨hRn, hpend⟩, hrest⟩ := hcd
     have hRn : R = none := by cases R with | none => rfl | some _ => simp at hRn
     subst hRn
     rw [low_min] at h2
     have a0 := same_abs (l := min cur.low H1.low) ha hw (Nat.min_le_left _ _) (fun c _ h2 => Nat.le_trans h2 (Nat.min_le_right _ _))
     let r : Rec := ⟨o, b, t, cur, .write, cur, v, H1, t1, { H1 with low := min cur.low H1.low }⟩
     have hga : GoodAt P E ops L r := by
      refine ⟨ho, hbit, hw, a0.wf, a0.nx, ht1, fun h => (by cases h), fun _ => ⟨hwa, seen_of hc.loudsOk (r := r) hR rfl, hw, Nat.le_refl _, hs'⟩, fun _ => hbar hbl, fun h => (by cases h), fun h => (by cases h), fun _ => ⟨rfl, rfl, fun m q hq hk hn => restrict_none hR _ (hc.loudsOk.all m q hq hk hn), fun m q hq hk => ?_⟩⟩
      have := hpend _ (hc.pends m q hq hk)
      simp only [still, Bool.or_eq_true] at this
      rcases this with this | this
      ·exact .inl this
      ·refine .inr ?_
       split at this
       ·rename_i v2 H2 hs2
        simp only [Bool.and_eq_true] at this
        refine ⟨H2, ?_, Nat.eq_of_beq_eq_true this.1.2, Nat.eq_of_beq_eq_true this.2⟩
        rw [← veq_eq this.1.1]; exact hs2
       ·cases this
     refine evDraw_good (L := L ++ [r]) hE (by rw [hlen]; exact h2) (.snoc (r := r) hg hga) ⟨by rw [hlen]; exact hl', by rw [hlen]; exact hb', ?_, ⟨?_, ?_, List.Pairwise.nil⟩, fun x hx => (by cases hx), ?_⟩
     ·intro m q hq hk
      rcases snoc_get.1 hq with hq | ⟨rfl, rfl⟩
      ·exact hc.pends m q hq hk
      ·cases hk
     ·intro m q hq hk hn
      rcases snoc_get.1 hq with hq | ⟨_, rfl⟩
      ·exact absurd rfl ((NoWrite.snoc.1 hn).2 (by have := get_lt hq; omega))
      ·cases hk
     ·intro x hx; cases hx
     ·intro m q hq hk x hx
      rcases snoc_get.1 hq with hq | ⟨rfl, rfl⟩
      ·exact bars' m q hq hk x hx
      ·exact hrest x hx
end Go.AE
namespace Go.AE
open Go.RowKit (Below)
variable {P : Program} {E : Ev} {ops : Array Oper} {t₀ t' : Tm} {H₀ H' : St} {L : List Rec}
def tAt (L : List Rec) (t' : Tm) (j : Nat) : Tm := ((L[j]?).map (·.t)).getD t'
def cAt (L : List Rec) (H' : St) (j : Nat) : St := ((L[j]?).map (·.cur)).getD H'
theorem Good.index {t : Tm} {H : St} (h : Good P E ops t₀ H₀ L t H) : (tAt L t 0 = t₀ ∧ cAt L H 0 = H₀) ∧ ∀ (j : Nat) (r : Rec), L[j]? = some r → tAt L t (j + 1) = r.t1 ∧ cAt L H (j + 1) = r.C1 ∧ GoodAt P E ops (L.take j) r := by
 induction h with
 | nil _ => exact ⟨⟨rfl, rfl⟩, fun j r h => by cases h⟩
 | @snoc L r hg ha ih =>
  obtain ⟨⟨i1, i2⟩, i3⟩ := ih
  have low : ∀ j, j < L.length → (L ++ [r])[j]? = L[j]? := fun j hj => List.getElem?_append_left hj
  have at_ : (L ++ [r])[L.length]? = some r := snoc_get.2 (.inr ⟨rfl, rfl⟩)
  have tl : ∀ j, j ≤ L.length → tAt (L ++ [r]) r.t1 j = tAt L r.t j := by
   intro j hj
   unfold tAt
   rcases Nat.lt_or_ge j L.length with h | h
   ·rw [low j h]
    cases e : L[j]? with
    | none => rw [List.getElem?_eq_none_iff] at e; omega
    | some q => rfl
   ·have : j = L.length := by omega
    subst this
    rw [at_]; simp
  have cl : ∀ j, j ≤ L.length → cAt (L ++ [r]) r.C1 j = cAt L r.cur j := by
   intro j hj
   unfold cAt
   rcases Nat.lt_or_ge j L.length with h | h
   ·rw [low j h]
    cases e : L[j]? with
    | none => rw [List.getElem?_eq_none_iff] at e; omega
    | some q => rfl
   ·have : j = L.length := by omega
    subst this
    rw [at_]; simp
  refine ⟨⟨by rw [tl 0 (Nat.zero_le _)]; exact i1, by rw [cl 0 (Nat.zero_le _)]; exact i2⟩, fun j q hq => ?_⟩
  rcases snoc_get.1 hq with hq | ⟨rfl, rfl⟩
  ·have hj := get_lt hq
   obtain ⟨k1, k2, k3⟩ := i3 j q hq
   refine ⟨by rw [tl (j + 1) hj]; exact k1, by rw [cl (j + 1) hj]; exact k2, ?_⟩
   rw [List.take_append_of_le_length (by omega)]; exact k3
  ·refine ⟨by unfold tAt; simp, by unfold cAt; simp, ?_⟩
   rw [List.take_left' rfl]; exact ha
theorem take_get {j m : Nat} {q : Rec} : (L.take j)[m]? = some q ↔ (m < j ∧ L[m]? = some q) := by
 rw [List.getElem?_take]
 by_cases h : m < j
 ·rw [if_pos h]; exact ⟨fun e => ⟨h, e⟩, fun e => e.2⟩
 ·rw [if_neg h]; exact ⟨fun e => (by cases e), fun e => absurd e.1 h⟩
def NoW (L : List Rec) (i j : Nat) : Prop := ∀ (m : Nat) (q : Rec), L[m]? = some q → i ≤ m → m < j → q.k ≠ .write
theorem noW_take {i j : Nat} : NoWrite (L.take j) i ↔ NoW L i j :=
 ⟨fun h m q hq h1 h2 => h m q (take_get.2 ⟨h2, hq⟩) h1, fun h m q hq h1 => let ⟨a, b⟩ := take_get.1 hq; h m q b h1 a⟩
structure Plan (P : Program) (E : Ev) (ops : Array Oper) (L : List Rec) (T : Nat → Tm) (C : Nat → St) : Prop where
 len : L.length = ops.size
 t : ∀ (j : Nat) (r : Rec), L[j]? = some r → r.t = T j ∧ r.t1 = T (j + 1) ∧ r.cur = C j ∧ r.C1 = C (j + 1)
 wf : ∀ j, WF (C j)
 op : ∀ (j : Nat) (r : Rec), L[j]? = some r → ops[j]? = some r.o
 bit : ∀ (j : Nat) (r : Rec), L[j]? = some r → (Region.before ops)[j]? = some r.b
 nx : ∀ (j : Nat) (r : Rec), L[j]? = some r → (C j).next ≤ (C (j + 1)).next
 put : ∀ (j : Nat) (r : Rec), L[j]? = some r → (T j).put r.o.dst r.v = some (T (j + 1))
 free : ∀ (j : Nat) (r : Rec), L[j]? = some r → r.k = .free → C (j + 1) = C j ∧ ((zCA ops (T j) r.o = false ∧ r.v = undef) ∨ (zCA ops (T j) r.o = true ∧ blindOp r.o.op = true ∧ ∃ Hx, (C j).op P (T j) r.o = some (.val r.v, Hx)))
 act : ∀ (j : Nat) (r : Rec), L[j]? = some r → r.k ≠ .free → zCA ops (T j) r.o = true ∧ WF r.R ∧ r.R.next ≤ (C j).next ∧ zDA E P (T j) (at_ r.R (C j)) r.o = some (r.v, r.H1)
 seen : ∀ (j : Nat) (r : Rec), L[j]? = some r → r.k ≠ .free → ∃ i, i ≤ j ∧ r.R = C i ∧ NoW L i j ∧ ∀ (m : Nat) (q : Rec), L[m]? = some q → m < i → q.k = .loud → NoW L m j → r.b.testBit m = true
 bar : ∀ (j : Nat) (r : Rec), L[j]? = some r → r.k ≠ .free → ∀ (m : Nat) (q : Rec), L[m]? = some q → m < j → q.k = .write → r.b.testBit m = true
 silent : ∀ (j : Nat) (r : Rec), L[j]? = some r → r.k = .silent → r.H1.low = (C j).next ∧ r.H1.next = (C j).next ∧ C (j + 1) = C j
 loud : ∀ (j : Nat) (r : Rec), L[j]? = some r → r.k = .loud → r.H1.low = (C j).next ∧ (C (j + 1)).next = r.H1.next ∧ (C (j + 1)).low = (C j).low ∧
  (∀ b, b < (C j).next → (C (j + 1)).obs.get b = (C j).obs.get b ∧ (C (j + 1)).fams.get b = (C j).fams.get b) ∧
  ∀ b, (C j).next ≤ b → (C (j + 1)).obs.get b = r.H1.obs.get b ∧ (C (j + 1)).fams.get b = r.H1.fams.get b
 write : ∀ (j : Nat) (r : Rec), L[j]? = some r → r.k = .write → r.R = C j ∧ C (j + 1) = { r.H1 with low := min (C j).low r.H1.low }
 wlouds : ∀ (j : Nat) (r : Rec), L[j]? = some r → r.k = .write → ∀ (m : Nat) (q : Rec), L[m]? = some q → m < j → q.k = .loud → NoW L m j → r.b.testBit m = true
 wpend : ∀ (j : Nat) (r : Rec), L[j]? = some r → r.k = .write → ∀ (m : Nat) (q : Rec), L[m]? = some q → m < j → q.k = .silent →
  r.b.testBit m = true ∨ ∃ H2, zDA E P (T m) (at_ (C (j + 1)) (C (j + 1))) q.o = some (q.v, H2) ∧ H2.next = (C (j + 1)).next ∧ H2.low = (C (j + 1)).next
theorem tAt_of {j : Nat} {r : Rec} {t : Tm} (h : L[j]? = some r) : tAt L t j = r.t := by unfold tAt; rw [h]; rfl
theorem cAt_of {j : Nat} {r : Rec} {H : St} (h : L[j]? = some r) : cAt L H j = r.cur := by unfold cAt; rw [h]; rfl
theorem Good.plan (h : Good P E ops t₀ H₀ L t' H') (hlen : L.length = ops.size) : Plan P E ops L (tAt L t') (cAt L H') ∧ tAt L t' 0 = t₀ ∧ cAt L H' 0 = H₀ ∧ tAt L t' ops.size = t' ∧ cAt L H' ops.size = H' := by
 obtain ⟨⟨i1, i2⟩, i3⟩ := h.index
 have tl : ∀ (j : Nat) (r : Rec), L[j]? = some r → (L.take j).length = j := fun j r hq => by have := get_lt hq; rw [List.length_take]; omega
 have hf : ∀ (j : Nat) (r : Rec), L[j]? = some r → r.t = tAt L t' j ∧ r.t1 = tAt L t' (j + 1) ∧ r.cur = cAt L H' j ∧ r.C1 = cAt L H' (j + 1) := fun j r hq =>
  ⟨(tAt_of hq).symm, (i3 j r hq).1.symm, (cAt_of hq).symm, (i3 j r hq).2.1.symm⟩
 have hw : WF H' := h.wf
 refine ⟨⟨hlen, hf, ?_, ?_, ?_, ?_, ?_, ?_, ?_, ?_, ?_, ?_, ?_, ?_, ?_, ?_⟩, i1, i2, by unfold tAt; rw [List.getElem?_eq_none (by omega)]; rfl, by unfold cAt; rw [List.getElem?_eq_none (by omega)]; rfl⟩
 ·intro j
  cases e : L[j]? with
  | none => unfold cAt; rw [e]; exact hw
  | some r => rw [cAt_of e]; exact (i3 j r e).2.2.wf
 all_goals
  intro j r hq
  obtain ⟨_, _, g⟩ := i3 j r hq
  obtain ⟨e1, e2, e3, e4⟩ := hf j r hq
  have el := tl j r hq
  try rw [← e1]
  try rw [← e2]
  try rw [← e3]
  try rw [← e4]
 ·have := g.op; rwa [el] at this
 ·have := g.bit; rwa [el] at this
 ·exact g.nx
 ·exact g.put
 ·exact g.free
 ·exact fun hk => let ⟨a, _, b, c, d⟩ := g.act hk; ⟨a, b, c, d⟩
 ·intro hk
  obtain ⟨_, ⟨i, h1, h2, h3⟩, hR, hRn, _⟩ := g.act hk
  have hij : i ≤ j := by
   rcases h1 with ⟨h1, _⟩ | ⟨q, h1, _⟩
   ·omega
   ·have := get_lt h1; omega
  refine ⟨i, hij, ?_, noW_take.1 h2, fun m q hm h4 h5 h6 => h3 m q (take_get.2 ⟨by omega, hm⟩) h4 h5 (noW_take.2 h6)⟩
  rcases h1 with ⟨h1, h1'⟩ | ⟨q, h1, h1'⟩
  ·rw [h1', e3]; congr 1; omega
  ·rw [h1', cAt_of (take_get.1 h1).2]
 ·exact fun hk m q hm h1 h2 => g.bar hk m q (take_get.2 ⟨h1, hm⟩) h2
 ·exact g.silent
 ·exact g.loud
 ·intro hk; exact ⟨(g.write hk).1, (g.write hk).2.1⟩
 ·exact fun hk m q hm h1 h2 h3 => (g.write hk).2.2.1 m q (take_get.2 ⟨h1, hm⟩) h2 (noW_take.2 h3)
 ·intro hk m q hm h1 h2
  have := (g.write hk).2.2.2 m q (take_get.2 ⟨h1, hm⟩) h2
  rw [(hf m q hm).1] at this; exact this
section
variable {T : Nat → Tm} {C : Nat → St} (h : Plan P E ops L T C)
include h
theorem Plan.at' {j : Nat} (hj : j < ops.size) : ∃ r, L[j]? = some r := ⟨L[j]'(by have := h.len; omega), by simp [h.len, hj]⟩
theorem Plan.mono {i j : Nat} (hij : i ≤ j) (hj : j ≤ ops.size) : (C i).next ≤ (C j).next := by
 induction j with
 | zero => have : i = 0 := by omega
           subst this; exact Nat.le_refl _
 | succ j ih =>
  rcases Nat.lt_or_ge i (j + 1) with h' | h'
  ·obtain ⟨r, hr⟩ := h.at' (j := j) (by omega)
   exact Nat.le_trans (ih (by omega) (by omega)) (h.nx j r hr)
  ·have : i = j + 1 := by omega
   subst this; exact Nat.le_refl _
theorem Plan.agree {i j : Nat} (hij : i ≤ j) (hj : j ≤ ops.size) (hn : NoW L i j) :
    (C j).low = (C i).low ∧ ∀ b, b < (C i).next → (C j).obs.get b = (C i).obs.get b ∧ (C j).fams.get b = (C i).fams.get b := by
 induction j with
 | zero => have : i = 0 := by omega
           subst this; exact ⟨rfl, fun _ _ => ⟨rfl, rfl⟩⟩
 | succ j ih =>
  rcases Nat.lt_or_ge i (j + 1) with h' | h'
  ·obtain ⟨r, hr⟩ := h.at' (j := j) (by omega)
   obtain ⟨l1, a1⟩ := ih (by omega) (by omega) (fun m q hm h1 h2 => hn m q hm h1 (by omega))
   have hw := hn j r hr (by omega) (by omega)
   cases hk : r.k with
   | write => exact absurd hk hw
   | free => rw [(h.free j r hr hk).1]; exact ⟨l1, a1⟩
   | silent => rw [(h.silent j r hr hk).2.2]; exact ⟨l1, a1⟩
   | loud =>
    obtain ⟨_, _, l2, a2, _⟩ := h.loud j r hr hk
    refine ⟨l2.trans l1, fun b hb => ?_⟩
    have hm := h.mono (i := i) (j := j) (by omega) (by omega)
    obtain ⟨x1, x2⟩ := a2 b (by omega)
    obtain ⟨y1, y2⟩ := a1 b hb
    exact ⟨x1.trans y1, x2.trans y2⟩
  ·have : i = j + 1 := by omega
   subst this; exact ⟨rfl, fun _ _ => ⟨rfl, rfl⟩⟩
theorem Plan.sub {i j : Nat} (hij : i ≤ j) (hj : j ≤ ops.size) (hn : NoW L i j) : Sub (C i) (C j) := by
 obtain ⟨_, a⟩ := h.agree hij hj hn
 exact ⟨fun b o e => by rw [(a b ((h.wf i).obs b o e).1).1]; exact e, fun f fm e => by rw [(a f ((h.wf i).fams f fm e)).2]; exact e⟩
theorem Plan.owner {x j : Nat} (hj : j ≤ ops.size) (h0 : (C 0).next ≤ x) (hx : x < (C j).next) : ∃ m r, L[m]? = some r ∧ m < j ∧ (C m).next ≤ x ∧ x < (C (m + 1)).next ∧ (r.k = .loud ∨ r.k = .write) := by
 induction j with
 | zero => omega
 | succ j ih =>
  rcases Nat.lt_or_ge x (C j).next with h' | h'
  ·obtain ⟨m, r, h1, h2, h3⟩ := ih (by omega) h'
   exact ⟨m, r, h1, by omega, h3⟩
  ·obtain ⟨r, hr⟩ := h.at' (j := j) (by omega)
   refine ⟨j, r, hr, by omega, h', hx, ?_⟩
   cases hk : r.k with
   | write => exact .inr rfl
   | loud => exact .inl rfl
   | free => rw [(h.free j r hr hk).1] at hx; omega
   | silent => rw [(h.silent j r hr hk).2.2] at hx; omega
theorem Plan.owner_uniq {x m m' : Nat} (h1 : m < ops.size) (h2 : m' < ops.size) (a : (C m).next ≤ x) (b : x < (C (m + 1)).next) (a' : (C m').next ≤ x) (b' : x < (C (m' + 1)).next) : m = m' := by
 rcases Nat.lt_trichotomy m m' with hl | hl | hl
 ·have := h.mono (i := m + 1) (j := m') hl (by omega); omega
 ·exact hl
 ·have := h.mono (i := m' + 1) (j := m) hl (by omega); omega
theorem Plan.nextWrite {i : Nat} (hi : i ≤ ops.size) : ∃ e, i ≤ e ∧ e ≤ ops.size ∧ NoW L i e ∧ (e = ops.size ∨ ∃ r, L[e]? = some r ∧ r.k = .write) := by
 obtain ⟨d, hd⟩ : ∃ d, ops.size - i = d := ⟨_, rfl⟩
 induction d generalizing i with
 | zero => exact ⟨i, Nat.le_refl _, hi, fun m q _ h1 h2 => by omega, .inl (by omega)⟩
 | succ d ih =>
  obtain ⟨r, hr⟩ := h.at' (j := i) (by omega)
  by_cases hk : r.k = .write
  ·exact ⟨i, Nat.le_refl _, hi, fun m q _ h1 h2 => by omega, .inr ⟨r, hr, hk⟩⟩
  ·obtain ⟨e, h1, h2, h3, h4⟩ := ih (i := i + 1) (by omega) (by omega)
   refine ⟨e, by omega, h2, fun m q hm hm1 hm2 => ?_, h4⟩
   rcases Nat.lt_or_ge i m with hlt | hge
   ·exact h3 m q hm hlt hm2
   ·have : m = i := by omega
    subst this; rw [hr] at hm; cases hm; exact hk
theorem Plan.tn {j : Nat} (hj : j ≤ ops.size) : (T j).n = (T 0).n := by
 induction j with
 | zero => rfl
 | succ j ih =>
  obtain ⟨r, hr⟩ := h.at' (j := j) (by omega)
  have hp := h.put j r hr
  rw [← ih (by omega)]
  unfold Tm.put at hp
  split at hp
  ·simp only [Option.some.injEq] at hp; rw [← hp]
  ·have := (zBS hp).2
   simp only [Option.some.injEq] at this; rw [← this]
theorem Plan.tget {k i j : Nat} (hij : i ≤ j) (hj : j ≤ ops.size) (hn : ∀ (m : Nat) (r : Rec), L[m]? = some r → i ≤ m → m < j → r.o.dst ≠ some k) : (T j).m.get k = (T i).m.get k := by
 induction j with
 | zero => have : i = 0 := by omega
           subst this; rfl
 | succ j ih =>
  rcases Nat.lt_or_ge i (j + 1) with h' | h'
  ·obtain ⟨r, hr⟩ := h.at' (j := j) (by omega)
   have hp := h.put j r hr
   rw [← ih (by omega) (by omega) (fun m q hm h1 h2 => hn m q hm h1 (by omega))]
   have hd := hn j r hr (by omega) (by omega)
   unfold Tm.put at hp
   split at hp
   ·simp only [Option.some.injEq] at hp; rw [← hp]
   ·rename_i d hd'
    have := (zBS hp).2
    simp only [Option.some.injEq] at this
    rw [← this]
    exact Tr.get_set_ne _ _ (fun e => hd (by rw [hd', e]))
  ·have : i = j + 1 := by omega
   subst this; rfl
theorem Plan.tput {j d : Nat} {r : Rec} (hr : L[j]? = some r) (hd : r.o.dst = some d) : (T (j + 1)).m.get d = some r.v ∧ d < (T j).n := by
 have hp := h.put j r hr
 rw [hd] at hp
 simp only [Tm.put] at hp
 obtain ⟨h1, h2⟩ := zBS hp
 simp only [Option.some.injEq] at h2
 rw [← h2]
 exact ⟨Tr.get_set_same _ _ _, blt_lt h1⟩
end
end Go.AE
namespace Go.AE
open Go.RowKit (Below)
variable {P : Program} {E : Ev} {ops : Array Oper}
def befOne (acc : Array Nat) (o : Oper) : Nat := o.after.foldl (fun s e => if Region.binds .any e then s ||| 2 ^ e.on ||| acc.getD e.on 0 else s) 0
theorem befOne_bit {acc : Array Nat} {o : Oper} {i : Nat} (h : (befOne acc o).testBit i = true) : ∃ e ∈ o.after.toList, Region.binds .any e = true ∧ (i = e.on ∨ (acc.getD e.on 0).testBit i = true) := by
 unfold befOne at h
 rw [← Array.foldl_toList] at h
 have gen : ∀ (l : List Edge) (s : Nat), (l.foldl (fun s e => if Region.binds .any e then s ||| 2 ^ e.on ||| acc.getD e.on 0 else s) s).testBit i = true →
     s.testBit i = true ∨ ∃ e ∈ l, Region.binds .any e = true ∧ (i = e.on ∨ (acc.getD e.on 0).testBit i = true) := by
  intro l
  induction l with
  | nil => intro s h; exact .inl h
  | cons e l ih =>
   intro s h
   simp only [List.foldl_cons] at h
   rcases ih _ h with h | ⟨e', h1, h2⟩
   ·by_cases hb : Region.binds .any e = true
    ·rw [if_pos hb, Nat.testBit_or, Nat.testBit_or, Nat.testBit_two_pow] at h
     simp only [Bool.or_eq_true, decide_eq_true_eq] at h
     rcases h with (h | h) | h
     ·exact .inl h
     ·exact .inr ⟨e, List.mem_cons_self, hb, .inl h.symm⟩
     ·exact .inr ⟨e, List.mem_cons_self, hb, .inr h⟩
    ·rw [if_neg hb] at h; exact .inl h
   ·exact .inr ⟨e', List.mem_cons_of_mem _ h1, h2⟩
 rcases gen _ _ h with h | h
 ·simp at h
 ·exact h
theorem bef_get : ∀ (l : List Oper) (acc : Array Nat), let r := l.foldl (fun acc o => acc.push (befOne acc o)) acc
    (∀ j, j < acc.size → r[j]? = acc[j]?) ∧ r.size = acc.size + l.length ∧
    ∀ j b, acc.size ≤ j → r[j]? = some b → ∃ o, l[j - acc.size]? = some o ∧ ∃ acc' : Array Nat, b = befOne acc' o ∧ acc'.size = j ∧ ∀ i, i < j → acc'[i]? = r[i]?
 | [], acc => ⟨fun _ _ => rfl, rfl, fun j b hj h => by simp at h; have := (Array.getElem?_eq_some_iff.1 h).1; omega⟩
 | o :: l, acc => by
  obtain ⟨h1, h2, h3⟩ := bef_get l (acc.push (befOne acc o))
  simp only [List.foldl_cons]
  refine ⟨fun j hj => ?_, by rw [h2]; simp; omega, fun j b hj hb => ?_⟩
  ·rw [h1 j (by simp; omega), Array.getElem?_push_lt hj]; simp [hj]
  ·rcases Nat.lt_or_ge acc.size j with hlt | hge
   ·obtain ⟨o', q1, q2⟩ := h3 j b (by simp; omega) hb
    refine ⟨o', ?_, q2⟩
    have e : j - acc.size = (j - (acc.push (befOne acc o)).size) + 1 := by simp; omega
    rw [e, List.getElem?_cons_succ]; exact q1
   ·have : j = acc.size := by omega
    subst this
    refine ⟨o, by simp, acc, ?_, rfl, fun i hi => ?_⟩
    ·rw [h1 acc.size (by simp)] at hb
     simp at hb; exact hb.symm
    ·rw [h1 i (by simp; omega), Array.getElem?_push_lt hi]; simp [hi]
theorem before_bit {j b i : Nat} {o : Oper} (hb : (Region.before ops)[j]? = some b) (ho : ops[j]? = some o) (h : b.testBit i = true) :
    ∃ e ∈ o.after.toList, Region.binds .any e = true ∧ (i = e.on ∨ ∃ b', (Region.before ops)[e.on]? = some b' ∧ b'.testBit i = true) := by
 have hB : Region.before ops = ops.toList.foldl (fun acc o => acc.push (befOne acc o)) #[] := by
  unfold Region.before; rw [← Array.foldl_toList]; rfl
 obtain ⟨_, _, h3⟩ := bef_get ops.toList #[]
 rw [← hB] at h3
 obtain ⟨o', q1, acc', rfl, q3, q4⟩ := h3 j b (Nat.zero_le _) hb
 simp only [Array.size_empty, Nat.sub_zero, Array.getElem?_toList] at q1
 rw [ho] at q1; cases q1
 obtain ⟨e, e1, e2, e3⟩ := befOne_bit h
 refine ⟨e, e1, e2, ?_⟩
 rcases e3 with e3 | e3
 ·exact .inl e3
 ·refine .inr ?_
  rcases Nat.lt_or_ge e.on j with hlt | hge
  ·rw [Array.getD_eq_getD_getElem?] at e3
   cases hx : acc'[e.on]? with
   | none => rw [hx] at e3; simp at e3
   | some x => rw [hx] at e3; exact ⟨x, by rw [← q4 _ hlt]; exact hx, e3⟩
  ·rw [Array.getD_eq_getD_getElem?, Array.getElem?_eq_none (by omega)] at e3; simp at e3
theorem tmpsOk_spec (h : tmpsOk ops (Region.before ops) = true) {i j : Nat} {oi oj : Oper} {b : Nat} (hij : i < j) (hi : ops[i]? = some oi) (hj : ops[j]? = some oj) (hb : (Region.before ops)[j]? = some b) :
    b.testBit i = true ∨ ((∀ d, oi.dst = some d → d ∉ opTmps ops oj) ∧ ∀ d, oj.dst = some d → d ∉ opTmps ops oi) := by
 unfold tmpsOk at h
 rw [List.all_eq_true] at h
 have hjs : j < ops.size := (Array.getElem?_eq_some_iff.1 hj).1
 have h1 := h j (List.mem_range.2 hjs)
 rw [List.all_eq_true] at h1
 have h2 := h1 i (List.mem_range.2 hij)
 rw [hi, hj] at h2
 simp only [Bool.or_eq_true] at h2
 rcases h2 with h2 | h2
 ·rw [Array.getD_eq_getD_getElem?, hb] at h2; exact .inl h2
 ·refine .inr ?_
  simp only [Bool.and_eq_true] at h2
  refine ⟨fun d hd => ?_, fun d hd => ?_⟩
  ·have := h2.1; rw [hd] at this; simpa using this
  ·have := h2.2; rw [hd] at this; simpa using this
theorem edgesOk_spec (h : edgesOk ops = true) {j : Nat} {o : Oper} (hj : ops[j]? = some o) {e : Edge} (he : e ∈ o.after.toList) (hb : Region.binds .any e = true) : e.on < j := by
 unfold edgesOk at h
 rw [List.all_eq_true] at h
 have hjs : j < ops.size := (Array.getElem?_eq_some_iff.1 hj).1
 have h1 := h j (List.mem_range.2 hjs)
 rw [hj] at h1
 simp only [Array.all_eq_true_iff_forall_mem] at h1
 have := h1 e (by simpa using he)
 simp only [hb, Bool.not_true, Bool.false_or] at this
 exact blt_lt this
section
variable {L : List Rec} {T : Nat → Tm} {C : Nat → St}
def Closed (L : List Rec) (S : Nat → Prop) : Prop := ∀ (j : Nat) (r : Rec), L[j]? = some r → S j → ∀ i, r.b.testBit i = true → S i
structure Seg (L : List Rec) (N : Nat) (S : Nat → Prop) (b e : Nat) : Prop where
 le : b ≤ e
 en : e ≤ N
 no : NoW L b e
 first : b = 0 ∨ ∃ r, L[b - 1]? = some r ∧ r.k = .write ∧ S (b - 1) ∧ 0 < b
 last : e = N ∨ ∃ r, L[e]? = some r ∧ r.k = .write ∧ ¬ S e
theorem loud_before (h : Plan P E ops L T C) {S : Nat → Prop} (hS : Closed L S) {b e : Nat} (hs : Seg L ops.size S b e) {i : Nat} {r : Rec} (hi : L[i]? = some r) (hk : r.k = .loud ∨ r.k = .write) (hib : i < b) : S i := by
 obtain ⟨rw_, h1, h2, h3, h4⟩ : ∃ r, L[b - 1]? = some r ∧ r.k = .write ∧ S (b - 1) ∧ 0 < b := by
  rcases hs.first with h | h
  ·omega
  ·exact h
 have wr : ∀ (m : Nat) (q : Rec), L[m]? = some q → q.k = .write → m < b → S m := fun m q hq hqk hm => by
  rcases Nat.lt_or_ge m (b - 1) with hlt | hge
  ·exact hS _ _ h1 h3 m (h.bar _ _ h1 (by rw [h2]; intro e; cases e) m q hq hlt hqk)
  ·have : m = b - 1 := by omega
   subst this; exact h3
 rcases hk with hk | hk
 ·have hlt : i < b - 1 := by
    rcases Nat.lt_or_ge i (b - 1) with hlt | hge
    ·exact hlt
    ·have : i = b - 1 := by omega
     subst this; rw [h1] at hi; cases hi; rw [h2] at hk; cases hk
  obtain ⟨e', e1, e2, e3, e4⟩ := h.nextWrite (i := i + 1) (by have := hs.le; have := hs.en; omega)
  have he' : e' ≤ b - 1 := by
   rcases Nat.lt_or_ge (b - 1) e' with hg | hg
   ·exact absurd h2 (e3 (b - 1) rw_ h1 (by omega) hg)
   ·exact hg
  obtain ⟨r', hr', hk'⟩ : ∃ r, L[e']? = some r ∧ r.k = .write := by
   rcases e4 with e4 | e4
   ·have := hs.le; have := hs.en; omega
   ·exact e4
  refine hS e' r' hr' (wr e' r' hr' hk' (by omega)) i (h.wlouds e' r' hr' hk' i r hi (by omega) hk ?_)
  intro m q hq hm1 hm2
  rcases Nat.lt_or_ge i m with hlt' | hge'
  ·exact e3 m q hq hlt' hm2
  ·have : m = i := by omega
   subst this; rw [hi] at hq; cases hq; rw [hk]; intro e; cases e
 ·exact wr i r hi hk hib
theorem done_before (h : Plan P E ops L T C) {S : Nat → Prop} (hS : Closed L S) {b e : Nat} (hs : Seg L ops.size S b e) {i : Nat} {r : Rec} (hi : L[i]? = some r) (hk : r.k ≠ .free) (hSi : S i) : i < e := by
 rcases Nat.lt_or_ge i e with hlt | hge
 ·exact hlt
 ·rcases hs.last with hl | ⟨rw_, h1, h2, h3⟩
  ·have := get_lt hi; have := h.len; omega
  ·rcases Nat.lt_or_ge e i with hlt | hge'
   ·exact absurd (hS i r hi hSi e (h.bar i r hi hk e rw_ h1 hlt h2)) h3
   ·have : i = e := by omega
    subst this; exact absurd hSi h3
def In (C : Nat → St) (N : Nat) (S : Nat → Prop) (x : Nat) : Prop := x < (C 0).next ∨ ∃ i, i < N ∧ S i ∧ (C i).next ≤ x ∧ x < (C (i + 1)).next
structure Heap (C : Nat → St) (N : Nat) (S : Nat → Prop) (e : Nat) (A : St) : Prop where
 next : A.next = (C e).next
 low : A.low = (C e).low
 wf : WF A
 yes : ∀ x, In C N S x → A.obs.get x = (C e).obs.get x ∧ A.fams.get x = (C e).fams.get x
 no : ∀ x, ¬ In C N S x → A.obs.get x = none ∧ A.fams.get x = none
theorem Heap.sub {N : Nat} {S : Nat → Prop} {e i : Nat} {A : St} (hA : Heap C N S e A) (hwf : WF (C i)) (hag : ∀ b, b < (C i).next → (C e).obs.get b = (C i).obs.get b ∧ (C e).fams.get b = (C i).fams.get b)
    (hin : ∀ x, x < (C i).next → In C N S x) : Sub (C i) A :=
 ⟨fun b o h => by
  have hb := (hwf.obs b o h).1
  rw [(hA.yes b (hin b hb)).1, (hag b hb).1]; exact h,
  fun f fm h => by
   have hb := hwf.fams f fm h
   rw [(hA.yes f (hin f hb)).2, (hag f hb).2]; exact h⟩
theorem step_quiet {μ₀ μ μ' : Mu} {H₀ A G H₁ : St} {w₀ w w' : World} (s0 : Step μ₀ H₀ w₀ μ A w) (hG : WF G) (st : Step μ G w μ' H₁ w') (hn : H₁.next = G.next) (hl : G.next ≤ H₁.low) :
    μ' = μ ∧ Ext w w' ∧ Step μ₀ H₀ w₀ μ A w' := by
 have hμ : μ' = μ := by
  funext b
  cases e : μ b with
  | none =>
   cases e' : μ' b with
   | none => rfl
   | some x => have := st.dom b e (by rw [e']; simp); omega
  | some x => exact st.le _ _ e
 subst hμ
 obtain ⟨_, hb⟩ := st.own G.next w.heap.size (Nat.le_refl _) (Nat.le_refl _) (Own.next hG)
 have hb := hb hl
 refine ⟨rfl, st.ext, ⟨s0.le, s0.ext.trans st.ext, s0.rel.below hb st.ext, s0.dom, s0.nx, s0.low, Nat.le_trans s0.size hb.size, hb.os.trans s0.os, hb.tape.trans s0.tape, hb.output.trans s0.output, fun c B hc hB ho => ?_⟩⟩
 obtain ⟨k1, k2⟩ := s0.own c B hc hB ho
 refine ⟨k1, fun hcl => (k2 hcl).trans ?_⟩
 exact ⟨hb.os, hb.tape, hb.output, hb.size, fun k hk => hb.block k (by have := s0.size; omega)⟩
def TmInv (L : List Rec) (T : Nat → Tm) (N : Nat) (S : Nat → Prop) (w : World) (μ : Mu) (a : Act) : Prop :=
 (T 0).n = a.tmps.size ∧ ∀ k, ∃ p, p ≤ N ∧ (∀ (i : Nat) (r : Rec), L[i]? = some r → i < p → r.o.dst = some k → S i) ∧ (∀ (i : Nat) (r : Rec), L[i]? = some r → p ≤ i → r.o.dst = some k → ¬ S i) ∧
  VR w μ (((T p).m.get k).getD undef) (a.tmps.getD k undef)
theorem TmInv.looks (h : Plan P E ops L T C) (hok : tmpsOk ops (Region.before ops) = true) {S : Nat → Prop} (hS : Closed L S) {w : World} {μ : Mu} {a : Act} (ht : TmInv L T ops.size S w μ a)
    {j : Nat} {r : Rec} (hr : L[j]? = some r) (hj : ¬ S j) (hb : ∀ i, r.b.testBit i = true → S i) {k : Nat} (hk : k ∈ opTmps ops r.o) : VR w μ (((T j).m.get k).getD undef) (a.tmps.getD k undef) := by
 obtain ⟨p, hp, h1, h2, h3⟩ := ht.2 k
 have hjn : j < ops.size := by have := get_lt hr; have := h.len; omega
 have ahead : ∀ (i : Nat) (q : Rec), L[i]? = some q → i < j → q.o.dst = some k → S i := fun i q hq hij hd => by
  rcases tmpsOk_spec hok hij (h.op i q hq) (h.op j r hr) (h.bit j r hr) with hbit | ⟨hno, _⟩
  ·exact hb i hbit
  ·exact absurd hk (hno k hd)
 have behind : ∀ (i : Nat) (q : Rec), L[i]? = some q → j ≤ i → q.o.dst = some k → ¬ S i := fun i q hq hij hd hSi => by
  rcases Nat.lt_or_ge j i with hlt | hge
  ·rcases tmpsOk_spec hok hlt (h.op j r hr) (h.op i q hq) (h.bit i q hq) with hbit | ⟨_, hno⟩
   ·exact hj (hS i q hq hSi j hbit)
   ·exact absurd hk (hno k hd)
  ·have : i = j := by omega
   subst this; exact hj hSi
 have e : (T j).m.get k = (T p).m.get k := by
  rcases Nat.lt_or_ge p j with hlt | hge
  ·exact h.tget (by omega) (by omega) fun m q hq hm1 hm2 hd => h2 m q hq hm1 hd (ahead m q hq hm2 hd)
  ·exact (h.tget hge hp fun m q hq hm1 hm2 hd => behind m q hq hm1 hd (h1 m q hq hm2 hd)).symm
 rw [e]; exact h3
theorem TmInv.put (h : Plan P E ops L T C) (hok : tmpsOk ops (Region.before ops) = true) {S : Nat → Prop} (hS : Closed L S) {w w' : World} {μ μ' : Mu} {a : Act} (ht : TmInv L T ops.size S w μ a)
    {j : Nat} {r : Rec} (hr : L[j]? = some r) (hj : ¬ S j) (hb : ∀ i, r.b.testBit i = true → S i) (hm : μ.le μ') (he : Ext w w') {v' : Value} (hv : VR w' μ' r.v v') :
    TmInv L T ops.size (fun i => i = j ∨ S i) w' μ' (a.put r.o.dst v') := by
 have hjn : j < ops.size := by have := get_lt hr; have := h.len; omega
 cases hd : r.o.dst with
 | none =>
  refine ⟨ht.1, fun k => ?_⟩
  obtain ⟨p, hp, h1, h2, h3⟩ := ht.2 k
  refine ⟨p, hp, fun i q hq hip hqd => .inr (h1 i q hq hip hqd), fun i q hq hip hqd => ?_, h3.mono hm he⟩
  rintro (rfl | hS')
  ·rw [hr] at hq; cases hq; rw [hd] at hqd; cases hqd
  ·exact h2 i q hq hip hqd hS'
 | some d =>
  refine ⟨by simp [Act.put, ht.1], fun k => ?_⟩
  by_cases hkd : k = d
  ·subst hkd
   have hk : k ∈ opTmps ops r.o := by unfold opTmps; rw [hd]; simp
   obtain ⟨g1, g2⟩ := h.tput hr hd
   refine ⟨j + 1, by omega, fun i q hq hij hqd => ?_, fun i q hq hij hqd => ?_, ?_⟩
   ·rcases Nat.lt_or_ge i j with hlt | hge
    ·rcases tmpsOk_spec hok hlt (h.op i q hq) (h.op j r hr) (h.bit j r hr) with hbit | ⟨hno, _⟩
     ·exact .inr (hb i hbit)
     ·exact absurd hk (hno k hqd)
    ·exact .inl (by omega)
   ·rintro (rfl | hSi)
    ·omega
    ·rcases tmpsOk_spec hok (show j < i by omega) (h.op j r hr) (h.op i q hq) (h.bit i q hq) with hbit | ⟨_, hno⟩
     ·exact hj (hS i q hq hSi j hbit)
     ·exact absurd hk (hno k hqd)
   ·rw [g1]
    have hlt : k < a.tmps.size := by rw [← ht.1, ← h.tn (j := j) (by omega)]; exact g2
    simpa [Act.put, Array.getD, hlt] using hv
  ·obtain ⟨p, hp, h1, h2, h3⟩ := ht.2 k
   refine ⟨p, hp, fun i q hq hip hqd => .inr (h1 i q hq hip hqd), fun i q hq hip hqd => ?_, ?_⟩
   ·rintro (rfl | hS')
    ·rw [hr] at hq; cases hq; rw [hd] at hqd; cases hqd; exact hkd rfl
    ·exact h2 i q hq hip hqd hS'
   ·have e : (a.put (some d) v').tmps.getD k undef = a.tmps.getD k undef := by
      show (a.tmps.setIfInBounds d v').getD k undef = _
      rw [Array.getD_eq_getD_getElem?, Array.getD_eq_getD_getElem?, Array.getElem?_setIfInBounds_ne (fun e => hkd e.symm)]
    rw [e]; exact h3.mono hm he
end
end Go.AE
namespace Go.AE
open Go.RowKit (Below)
variable {P : Program} {E : Ev} {ops : Array Oper} {L : List Rec} {T : Nat → Tm} {C : Nat → St}
structure Inv (ops : Array Oper) (L : List Rec) (T : Nat → Tm) (C : Nat → St) (μ₀ : Mu) (w₀ : World) (S : Nat → Prop) (b e : Nat) (μ : Mu) (A : St) (a : Act) (w : World) : Prop where
 seg : Seg L ops.size S b e
 heap : Heap C ops.size S e A
 step : Step μ₀ (C 0) w₀ μ A w
 unm : ∀ x, (C 0).next ≤ x → x < (C ops.size).next → μ x ≠ none → In C ops.size S x
 tm : TmInv L T ops.size S w μ a
 defers : a.defers = []
abbrev Add (S : Nat → Prop) (j : Nat) : Nat → Prop := fun i => i = j ∨ S i
theorem in_add {S : Nat → Prop} {N j x : Nat} (hj : j < N) : In C N (Add S j) x ↔ (In C N S x ∨ ((C j).next ≤ x ∧ x < (C (j + 1)).next)) := by
 constructor
 ·rintro (h | ⟨i, h1, h2, h3⟩)
  ·exact .inl (.inl h)
  ·rcases h2 with rfl | h2
   ·exact .inr h3
   ·exact .inl (.inr ⟨i, h1, h2, h3⟩)
 ·rintro ((h | ⟨i, h1, h2, h3⟩) | h)
  ·exact .inl h
  ·exact .inr ⟨i, h1, .inr h2, h3⟩
  ·exact .inr ⟨j, hj, .inl rfl, h⟩
section
variable {μ₀ μ : Mu} {w₀ w : World} {S : Nat → Prop} {b e j n : Nat} {A : St} {a : Act} {r : Rec}
theorem seg_add (hs : Seg L ops.size S b e) (hr : L[j]? = some r) (hk : r.k ≠ .write) : Seg L ops.size (Add S j) b e := by
 refine ⟨hs.le, hs.en, hs.no, ?_, ?_⟩
 ·rcases hs.first with h | ⟨q, h1, h2, h3, h4⟩
  ·exact .inl h
  ·exact .inr ⟨q, h1, h2, .inr h3, h4⟩
 ·rcases hs.last with h | ⟨q, h1, h2, h3⟩
  ·exact .inl h
  ·refine .inr ⟨q, h1, h2, ?_⟩
   rintro (rfl | h)
   ·rw [hr] at h1; cases h1; exact hk h2
   ·exact h3 h
theorem inv_quiet (h : Plan P E ops L T C) (hok : tmpsOk ops (Region.before ops) = true) (hS : Closed L S) (hI : Inv ops L T C μ₀ w₀ S b e μ A a w) (hr : L[j]? = some r) (hj : ¬ S j)
    (hb : ∀ i, r.b.testBit i = true → S i) (hk : r.k ≠ .write) (hC : C (j + 1) = C j) {w' : World} (he : Ext w w') (hst : Step μ₀ (C 0) w₀ μ A w') {v' : Value} (hv : VR w' μ r.v v') :
    Inv ops L T C μ₀ w₀ (Add S j) b e μ A (a.put r.o.dst v') w' := by
 have hjn : j < ops.size := by have := get_lt hr; have := h.len; omega
 have hin : ∀ x, In C ops.size (Add S j) x ↔ In C ops.size S x := fun x => by
  rw [in_add hjn, hC]
  exact ⟨fun h => h.elim id fun h => by omega, .inl⟩
 exact ⟨seg_add hI.seg hr hk, ⟨hI.heap.next, hI.heap.low, hI.heap.wf, fun x hx => hI.heap.yes x ((hin x).1 hx), fun x hx => hI.heap.no x fun h => hx ((hin x).2 h)⟩, hst,
  fun x h1 h2 h3 => (hin x).2 (hI.unm x h1 h2 h3), hI.tm.put h hok hS hr hj hb (.refl _) he hv, by rw [zDK]; exact hI.defers⟩
theorem in_of_seen (h : Plan P E ops L T C) (hS : Closed L S) (hs : Seg L ops.size S b e) {i : Nat} (hi : i ≤ ops.size) (hl : ∀ (m : Nat) (q : Rec), L[m]? = some q → b ≤ m → m < i → q.k = .loud ∨ q.k = .write → S m)
    {x : Nat} (hx : x < (C i).next) : In C ops.size S x := by
 rcases Nat.lt_or_ge x (C 0).next with h0 | h0
 ·exact .inl h0
 ·obtain ⟨m, q, h1, h2, h3, h4, h5⟩ := h.owner hi h0 hx
  refine .inr ⟨m, by omega, ?_, h3, h4⟩
  rcases Nat.lt_or_ge m b with hlt | hge
  ·exact loud_before h hS hs h1 h5 hlt
  ·exact hl m q h1 hge h2 h5
theorem looks_sub {o : Oper} {k : Nat} (h : k ∈ o.looksAt ops) : k ∈ opTmps ops o := List.mem_append_left _ h
theorem wf_low {A : St} (h : WF A) (l : Nat) : WF { A with low := l } := ⟨h.obs, h.fams, h.gen⟩
theorem inv_step (h : Plan P E ops L T C) (hE : EvOk P n E) (hok : tmpsOk ops (Region.before ops) = true) (hS : Closed L S) (hI : Inv ops L T C μ₀ w₀ S b e μ A a w)
    (hr : L[j]? = some r) (hj : ¬ S j) (hb : ∀ i, r.b.testBit i = true → S i) {K : Act → World → Prop} {Q : Exit → Act → World → Prop}
    (hK : ∀ b' e' μ' A' a' w', Inv ops L T C μ₀ w₀ (Add S j) b' e' μ' A' a' w' → K a' w') : wpOp P ops Q j K a w := by
 have hjn : j < ops.size := by have := get_lt hr; have := h.len; omega
 have hlook : ∀ k ∈ r.o.looksAt ops, VR w μ (((T j).m.get k).getD undef) (a.tmps.getD k undef) := fun k hk => hI.tm.looks h hok hS hr hj hb (looks_sub hk)
 have htn : (T j).n = a.tmps.size := by rw [h.tn (by omega)]; exact hI.tm.1
 have hwant := wanted_only htn hlook
 have hop := h.op j r hr
 unfold wpOp
 rw [hop]
 dsimp only
 rw [hwant]
 have seg := hI.seg
 have hje : r.k ≠ .free → j ≤ e := fun hk => by
  rcases Nat.lt_or_ge e j with hlt | hge
  ·rcases seg.last with hl | ⟨q, h1, h2, h3⟩
   ·omega
   ·exact absurd (hb e (h.bar j r hr hk e q h1 hlt h2)) h3
  ·exact hge
 have hbj : r.k = .loud ∨ r.k = .write → b ≤ j := fun hk => by
  rcases Nat.lt_or_ge j b with hlt | hge
  ·exact absurd (loud_before h hS seg hr hk hlt) hj
  ·exact hge
 have hAsub : ∀ i, i ≤ e → b ≤ i → (∀ (m : Nat) (q : Rec), L[m]? = some q → b ≤ m → m < i → q.k = .loud ∨ q.k = .write → S m) → Sub (C i) A := fun i hie hbi hl =>
  hI.heap.sub (h.wf i) (h.agree hie seg.en fun m q hm h1 h2 => seg.no m q hm (by omega) h2).2 fun x hx => in_of_seen h hS seg (by have := seg.en; omega) hl hx
 cases hk : r.k with
 | free =>
  obtain ⟨hC, hcase⟩ := h.free j r hr hk
  rcases hcase with ⟨hw, hv⟩ | ⟨hw, hbl, Hx, hop2⟩
  ·rw [hw, if_neg (by simp)]
   exact hK _ _ _ _ _ _ (inv_quiet h hok hS hI hr hj hb (by rw [hk]; intro e; cases e) hC (.refl _) hI.step (by rw [hv]; exact .scal zB7))
  ·rw [hw, if_pos rfl]
   refine .inl ?_
   have hb2 := blind_op hbl hop2 { A with low := A.next }
   have hs2 : zDA E P (T j) { A with low := A.next } r.o = some (r.v, { A with low := A.next }) := by unfold zDA; rw [hb2]
   have hy := opStep_only hE (hI.step.rel.low A.next) (wf_low hI.heap.wf _) (fun x h1 h2 => absurd h1 (by omega)) htn hlook hs2
   refine wp_of_yld hy ?_
   rintro v' w' ⟨μ', st, hv⟩
   obtain ⟨rfl, hx, hst⟩ := step_quiet hI.step (wf_low hI.heap.wf _) st rfl (Nat.le_refl _)
   exact hK _ _ _ _ _ _ (inv_quiet h hok hS hI hr hj hb (by rw [hk]; intro e; cases e) hC hx hst hv)
 | silent =>
  have hnf : r.k ≠ .free := by rw [hk]; intro e; cases e
  have hnw : r.k ≠ .write := by rw [hk]; intro e; cases e
  obtain ⟨hw, hRw, hRn, hs⟩ := h.act j r hr hnf
  obtain ⟨hl1, hn1, hC⟩ := h.silent j r hr hk
  rw [hw, if_pos rfl]
  refine .inl ?_
  obtain ⟨R, N₁, H2, hRW, hRsub, hrun, hH2n, hH2l⟩ : ∃ (R : St) (N₁ : St) (H2 : St), WF (at_ R N₁) ∧ Sub R A ∧ zDA E P (T j) (at_ R N₁) r.o = some (r.v, H2) ∧ H2.next = N₁.next ∧ H2.low = N₁.next := by
   rcases Nat.lt_or_ge j b with hlt | hge
   ·obtain ⟨q, q1, q2, q3, q4⟩ : ∃ r, L[b - 1]? = some r ∧ r.k = .write ∧ S (b - 1) ∧ 0 < b := by
      rcases seg.first with hf | hf
      ·omega
      ·exact hf
    have hjb : j < b - 1 := by
     rcases Nat.lt_or_ge j (b - 1) with h' | h'
     ·exact h'
     ·have : j = b - 1 := by omega
      subst this; exact absurd q3 hj
    have hb1 : b - 1 + 1 = b := by omega
    rcases h.wpend (b - 1) q q1 q2 j r hr hjb hk with hbit | ⟨H2, e1, e2, e3⟩
    ·exact absurd (hS _ _ q1 q3 j hbit) hj
    ·rw [hb1] at e1 e2 e3
     exact ⟨C b, C b, H2, wf_at (h.wf b) (Nat.le_refl _), hAsub b seg.le (Nat.le_refl _) (fun m q hm h1 h2 => by omega), e1, e2, e3⟩
   ·obtain ⟨i, i1, i2, i3, i4⟩ := h.seen j r hr hnf
    have hje' := hje hnf
    have hbi : b ≤ i := by
     rcases Nat.lt_or_ge i b with hlt | hge'
     ·rcases seg.first with hf | ⟨q, q1, q2, q3, q4⟩
      ·omega
      ·exact absurd q2 (i3 (b - 1) q q1 (by omega) (by omega))
     ·exact hge'
    refine ⟨r.R, C j, r.H1, wf_at hRw hRn, ?_, hs, hn1, hl1⟩
    rw [i2]
    refine hAsub i (by omega) hbi fun m q hm h1 h2 h3 => ?_
    rcases h3 with h3 | h3
    ·exact hb m (i4 m q hm h2 h3 fun m' q' hm' k1 k2 => seg.no m' q' hm' (by omega) (by omega))
    ·exact absurd h3 (seg.no m q hm h1 (by omega))
  have hRel : Rel μ (at_ R N₁) w := hI.step.rel.sub ⟨hRsub.obs, hRsub.fams⟩ hRW
  have hy := opStep_only hE hRel hRW (fun x h1 h2 => absurd h1 (by rw [hH2n] at h2; show ¬ N₁.next ≤ x; omega)) htn hlook hrun
  refine wp_of_yld hy ?_
  rintro v' w' ⟨μ', st, hv⟩
  obtain ⟨rfl, hx, hst⟩ := step_quiet hI.step hRW st hH2n (by rw [hH2l]; exact Nat.le_refl _)
  exact hK _ _ _ _ _ _ (inv_quiet h hok hS hI hr hj hb hnw hC hx hst hv)
 | loud =>
  have hnf : r.k ≠ .free := by rw [hk]; intro e; cases e
  have hnw : r.k ≠ .write := by rw [hk]; intro e; cases e
  obtain ⟨hw, hRw, hRn, hs⟩ := h.act j r hr hnf
  obtain ⟨hl1, hn1, hlow1, hag1, hnew1⟩ := h.loud j r hr hk
  rw [hw, if_pos rfl]
  refine .inl ?_
  have hbj' := hbj (.inl hk)
  have hje' : j < e := by
   have := hje hnf
   rcases Nat.lt_or_ge j e with h' | h'
   ·exact h'
   ·have : j = e := by omega
    subst this
    rcases seg.last with hl | ⟨q, q1, q2, _⟩
    ·omega
    ·rw [hr] at q1; cases q1; exact absurd q2 hnw
  obtain ⟨i, i1, i2, i3, i4⟩ := h.seen j r hr hnf
  have hbi : b ≤ i := by
   rcases Nat.lt_or_ge i b with hlt | hge'
   ·rcases seg.first with hf | ⟨q, q1, q2, q3, q4⟩
    ·omega
    ·exact absurd q2 (i3 (b - 1) q q1 (by omega) (by omega))
   ·exact hge'
  have hRsub : Sub r.R A := by
   rw [i2]
   refine hAsub i (by omega) hbi fun m q hm h1 h2 h3 => ?_
   rcases h3 with h3 | h3
   ·exact hb m (i4 m q hm h2 h3 fun m' q' hm' k1 k2 => seg.no m' q' hm' (by omega) (by omega))
   ·exact absurd h3 (seg.no m q hm h1 (by omega))
  have hRW := wf_at (cur := C j) hRw hRn
  have hRel : Rel μ (at_ r.R (C j)) w := hI.step.rel.sub ⟨hRsub.obs, hRsub.fams⟩ hRW
  have h0j : (C 0).next ≤ (C j).next := h.mono (Nat.zero_le _) (by omega)
  have hjN : (C (j + 1)).next ≤ (C ops.size).next := h.mono (by omega) (Nat.le_refl _)
  have notIn : ∀ x, (C j).next ≤ x → x < (C (j + 1)).next → ¬ In C ops.size S x := by
   rintro x h1 h2 (h3 | ⟨m, m1, m2, m3, m4⟩)
   ·omega
   ·have := h.owner_uniq m1 hjn m3 m4 h1 h2
    subst this; exact hj m2
  have hdom : ∀ x, (C j).next ≤ x → x < r.H1.next → μ x = none := fun x h1 h2 => by
   cases hx : μ x with
   | none => rfl
   | some y => exact absurd (hI.unm x (by omega) (by omega) (by rw [hx]; simp)) (notIn x h1 (by omega))
  have hy := opStep_only hE hRel hRW (fun x h1 h2 => hdom x h1 h2) htn hlook hs
  refine wp_of_yld hy ?_
  rintro v' w' ⟨μ', st, hv⟩
  have hab := opStep_abs hE.abs hs hRW
  obtain ⟨A', hA'n, hA'l, hA'o, hA'f⟩ : ∃ A' : St, A'.next = A.next ∧ A'.low = A.low ∧ (∀ x, A'.obs.get x = if (C j).next ≤ x ∧ x < r.H1.next then r.H1.obs.get x else A.obs.get x) ∧
      ∀ x, A'.fams.get x = if (C j).next ≤ x ∧ x < r.H1.next then r.H1.fams.get x else A.fams.get x := by
   obtain ⟨c1, c2⟩ := copyR_spec r.H1 (r.H1.next - (C j).next) (C j).next A.obs A.fams
   have hle : (C j).next ≤ r.H1.next := hab.nx
   refine ⟨⟨A.next, (copyR r.H1 (r.H1.next - (C j).next) (C j).next A.obs A.fams).1, (copyR r.H1 (r.H1.next - (C j).next) (C j).next A.obs A.fams).2, A.low⟩, rfl, rfl, fun x => ?_, fun x => ?_⟩
   ·show (copyR r.H1 (r.H1.next - (C j).next) (C j).next A.obs A.fams).1.get x = _
    rw [c1]
    by_cases hx : (C j).next ≤ x ∧ x < r.H1.next
    ·rw [if_pos (by omega), if_pos hx, (hI.heap.no x (notIn x hx.1 (by omega))).1]; cases r.H1.obs.get x <;> rfl
    ·rw [if_neg (by omega), if_neg hx]
   ·show (copyR r.H1 (r.H1.next - (C j).next) (C j).next A.obs A.fams).2.get x = _
    rw [c2]
    by_cases hx : (C j).next ≤ x ∧ x < r.H1.next
    ·rw [if_pos (by omega), if_pos hx, (hI.heap.no x (notIn x hx.1 (by omega))).2]; cases r.H1.fams.get x <;> rfl
    ·rw [if_neg (by omega), if_neg hx]
  have hjoin : Joined A r.H1 A' (C j).next := ⟨hA'o, hA'f, fun x h1 h2 => hI.heap.no x (notIn x h1 (by omega))⟩
  have hj1e : (C (j + 1)).next ≤ (C e).next := h.mono hje' seg.en
  have hnx1 : (C j).next ≤ (C (j + 1)).next := h.nx j r hr
  have famOf : ∀ x, (C j).next ≤ x → x < r.H1.next → ∀ c f g, r.H1.obs.get x = some (.rw c f g) → (C j).next ≤ f ∧ f < r.H1.next := fun x h1 h2 c f g ex => by
   have h3 := (hab.wf.obs x _ ex).2 c f g rfl
   obtain ⟨_, _, p3⟩ := hab.frame (C j).next (Nat.le_refl _) (by rw [hl1]; exact Nat.le_refl _)
   refine ⟨?_, by omega⟩
   rcases Nat.lt_or_ge f (C j).next with hf | hf
   ·have := (hRW.obs x _ (p3 x c f g ex hf)).1
    have hh : (at_ r.R (C j)).next = (C j).next := rfl
    omega
   ·exact hf
  have hwA' : WF A' := by
   refine ⟨fun x o ho => ?_, fun f fm hf => ?_, fun x c f g ho => ?_⟩
   ·rw [hA'o] at ho; rw [hA'n]
    by_cases hx : (C j).next ≤ x ∧ x < r.H1.next
    ·rw [if_pos hx] at ho
     exact ⟨by rw [hI.heap.next]; omega, (hab.wf.obs x o ho).2⟩
    ·rw [if_neg hx] at ho; exact hI.heap.wf.obs x o ho
   ·rw [hA'f] at hf; rw [hA'n]
    by_cases hx : (C j).next ≤ f ∧ f < r.H1.next
    ·rw [hI.heap.next]; omega
    ·rw [if_neg hx] at hf; exact hI.heap.wf.fams f fm hf
   ·rw [hA'o] at ho
    by_cases hx : (C j).next ≤ x ∧ x < r.H1.next
    ·rw [if_pos hx] at ho
     obtain ⟨fm, k1, k2⟩ := hab.wf.gen x c f g ho
     exact ⟨fm, by rw [hA'f, if_pos (famOf x hx.1 hx.2 c f g ho)]; exact k1, k2⟩
    ·rw [if_neg hx] at ho
     obtain ⟨fm, k1, k2⟩ := hI.heap.wf.gen x c f g ho
     refine ⟨fm, ?_, k2⟩
     rw [hA'f, if_neg ?_]; exact k1
     intro hf
     rw [(hI.heap.no f (notIn f hf.1 (by omega))).2] at k1; cases k1
  obtain ⟨hrel, hbel, hown⟩ := rel_join hI.step.rel hI.heap.wf hwA' hRW st hab rfl (by rw [hl1]; exact Nat.le_refl _) hjoin hdom
  have hin : ∀ x, In C ops.size (Add S j) x ↔ (In C ops.size S x ∨ ((C j).next ≤ x ∧ x < (C (j + 1)).next)) := fun x => in_add hjn
  have hagE := (h.agree (i := j + 1) (j := e) hje' seg.en fun m q hm h1 h2 => seg.no m q hm (by omega) h2).2
  refine hK b e μ' A' _ w' ⟨seg_add seg hr hnw, ⟨by rw [hA'n]; exact hI.heap.next, by rw [hA'l]; exact hI.heap.low, hwA', fun x hx => ?_, fun x hx => ?_⟩, ?_, fun x h1 h2 h3 => ?_, hI.tm.put h hok hS hr hj hb st.le st.ext hv, by rw [zDK]; exact hI.defers⟩
  ·rw [hA'o, hA'f]
   by_cases hN : (C j).next ≤ x ∧ x < r.H1.next
   ·rw [if_pos hN, if_pos hN]
    obtain ⟨e1, e2⟩ := hagE x (by omega)
    obtain ⟨f1, f2⟩ := hnew1 x hN.1
    exact ⟨(e1.trans f1).symm, (e2.trans f2).symm⟩
   ·rw [if_neg hN, if_neg hN]
    rcases (hin x).1 hx with hx | hx
    ·exact hI.heap.yes x hx
    ·omega
  ·have hx1 : ¬ In C ops.size S x := fun h => hx ((hin x).2 (.inl h))
   have hx2 : ¬ ((C j).next ≤ x ∧ x < r.H1.next) := fun h => hx ((hin x).2 (.inr (by omega)))
   rw [hA'o, hA'f, if_neg hx2, if_neg hx2]
   exact hI.heap.no x hx1
  ·refine ⟨hI.step.le.trans st.le, hI.step.ext.trans st.ext, hrel, fun x hx hx' => ?_, ?_, ?_, Nat.le_trans hI.step.size st.size, st.os.trans hI.step.os, st.tape.trans hI.step.tape, st.output.trans hI.step.output, fun c B hc hB ho => ?_⟩
   ·rw [hA'n]
    by_cases hm : μ x = none
    ·have h1 := (st.dom x hm hx').1
     have h2 := (st.dom x hm hx').2
     have hh : (at_ r.R (C j)).next = (C j).next := rfl
     rw [hI.heap.next]; omega
    ·exact hI.step.dom x hx hm
   ·rw [hA'n]; exact hI.step.nx
   ·rw [hA'l]; exact hI.step.low
   ·obtain ⟨k1, k2⟩ := hI.step.own c B hc hB ho
    have hBw : B ≤ w.heap.size := Nat.le_trans hB hI.step.size
    refine ⟨hown c B hBw k1, fun hcl => (k2 (by rw [hA'l] at hcl; exact hcl)).trans ⟨hbel.os, hbel.tape, hbel.output, hbel.size, fun k hk' => hbel.block k (by omega)⟩⟩
  ·by_cases hm : μ x = none
   ·have h4 := (st.dom x hm h3).1
    have h5 := (st.dom x hm h3).2
    have hh : (at_ r.R (C j)).next = (C j).next := rfl
    exact (hin x).2 (.inr (by omega))
   ·exact (hin x).2 (.inl (hI.unm x h1 h2 hm))
 | write =>
  have hnf : r.k ≠ .free := by rw [hk]; intro e; cases e
  obtain ⟨hw, hRw, hRn, hs⟩ := h.act j r hr hnf
  obtain ⟨hR, hC1⟩ := h.write j r hr hk
  rw [hw, if_pos rfl]
  refine .inl ?_
  have hbj' := hbj (.inr hk)
  have hje' : j = e := by
   have := hje hnf
   rcases Nat.lt_or_ge j e with h' | h'
   ·exact absurd hk (seg.no j r hr hbj' h')
   ·omega
  subst hje'
  rw [hR] at hs
  have hall : ∀ (m : Nat) (q : Rec), L[m]? = some q → b ≤ m → m < j → q.k = .loud ∨ q.k = .write → S m := fun m q hm h1 h2 h3 => by
   rcases h3 with h3 | h3
   ·exact hb m (h.wlouds j r hr hk m q hm h2 h3 fun m' q' hm' k1 k2 => seg.no m' q' hm' (by omega) k2)
   ·exact absurd h3 (seg.no m q hm h1 h2)
  have hsub : Sub (C j) A := hAsub j (Nat.le_refl _) seg.le hall
  have hRW := wf_at (cur := C j) (h.wf j) (Nat.le_refl _)
  have hRel : Rel μ (at_ (C j) (C j)) w := hI.step.rel.sub ⟨hsub.obs, hsub.fams⟩ hRW
  have h0j : (C 0).next ≤ (C j).next := h.mono (Nat.zero_le _) (by omega)
  have hn1 : (C (j + 1)).next = r.H1.next := by rw [hC1]
  have hjN : (C (j + 1)).next ≤ (C ops.size).next := h.mono (by omega) (Nat.le_refl _)
  have inJ : ∀ x, In C ops.size S x ↔ x < (C j).next := fun x => by
   constructor
   ·rintro (h1 | ⟨m, m1, m2, m3, m4⟩)
    ·omega
    ·obtain ⟨q, hq⟩ := h.at' m1
     have hqf : q.k ≠ .free := fun hq' => by rw [(h.free m q hq hq').1] at m4; omega
     have := done_before h hS seg hq hqf m2
     have := h.mono (i := m + 1) (j := j) this (by omega)
     omega
   ·intro hx
    exact in_of_seen h hS seg (by omega) hall hx
  have hdom : ∀ x, (C j).next ≤ x → x < r.H1.next → μ x = none := fun x h1 h2 => by
   cases hx : μ x with
   | none => rfl
   | some y => have := (inJ x).1 (hI.unm x (by omega) (by omega) (by rw [hx]; simp)); omega
  have hy := opStep_only hE hRel hRW (fun x h1 h2 => hdom x h1 h2) htn hlook hs
  refine wp_of_yld hy ?_
  rintro v' w' ⟨μ', st, hv⟩
  have hab := opStep_abs hE.abs hs hRW
  have hle : (C j).next ≤ r.H1.next := hab.nx
  obtain ⟨e', e1, e2, e3, e4⟩ := h.nextWrite (i := j + 1) (by omega)
  obtain ⟨agL, ag⟩ := h.agree (i := j + 1) (j := e') e1 e2 e3
  have hmono' : (C (j + 1)).next ≤ (C e').next := h.mono e1 e2
  have hin : ∀ x, In C ops.size (Add S j) x ↔ x < (C (j + 1)).next := fun x => by
   rw [in_add hjn, inJ x]; omega
  have hwf1 := h.wf (j + 1)
  have hwA' : WF { C (j + 1) with next := (C e').next } := ⟨fun x o ho => ⟨Nat.lt_of_lt_of_le (hwf1.obs x o ho).1 hmono', (hwf1.obs x o ho).2⟩, fun f fm hf => Nat.lt_of_lt_of_le (hwf1.fams f fm hf) hmono', hwf1.gen⟩
  have eo : (C (j + 1)).obs = r.H1.obs := by rw [hC1]
  have ef : (C (j + 1)).fams = r.H1.fams := by rw [hC1]
  have el : (C (j + 1)).low = min (C j).low r.H1.low := by rw [hC1]
  have hsubH : Sub { C (j + 1) with next := (C e').next } r.H1 := ⟨fun x o ho => by rw [← eo]; exact ho, fun f fm hf => by rw [← ef]; exact hf⟩
  refine hK (j + 1) e' μ' { C (j + 1) with next := (C e').next } _ w' ⟨⟨e1, e2, e3, .inr ⟨r, by simpa using hr, hk, .inl (by omega), by omega⟩, ?_⟩, ⟨rfl, agL.symm, hwA', fun x hx => ?_, fun x hx => ?_⟩, ?_, fun x h1 h2 h3 => ?_, hI.tm.put h hok hS hr hj hb st.le st.ext hv, by rw [zDK]; exact hI.defers⟩
  ·rcases e4 with e4 | ⟨q, q1, q2⟩
   ·exact .inl e4
   ·refine .inr ⟨q, q1, q2, ?_⟩
    rintro (rfl | hSe)
    ·omega
    ·have := done_before h hS seg q1 (by rw [q2]; intro e; cases e) hSe
     omega
  ·have hx := (hin x).1 hx
   obtain ⟨k1, k2⟩ := ag x hx
   exact ⟨k1.symm, k2.symm⟩
  ·have hx : ¬ x < (C (j + 1)).next := fun h => hx ((hin x).2 h)
   constructor
   ·cases ho : (C (j + 1)).obs.get x with
    | none => rfl
    | some o => exact absurd (hwf1.obs x o ho).1 hx
   ·cases ho : (C (j + 1)).fams.get x with
    | none => rfl
    | some o => exact absurd (hwf1.fams x o ho) hx
  ·refine ⟨hI.step.le.trans st.le, hI.step.ext.trans st.ext, st.rel.sub hsubH hwA', fun x hx hx' => ?_, ?_, ?_, Nat.le_trans hI.step.size st.size, st.os.trans hI.step.os, st.tape.trans hI.step.tape, st.output.trans hI.step.output, fun c B hc hB ho => ?_⟩
   ·show _ ≤ x ∧ x < (C e').next
    by_cases hm : μ x = none
    ·have h1 := (st.dom x hm hx').1
     have h2 := (st.dom x hm hx').2
     have hh : (at_ (C j) (C j)).next = (C j).next := rfl
     omega
    ·have := hI.step.dom x hx hm
     rw [hI.heap.next] at this
     omega
   ·show (C 0).next ≤ (C e').next
    omega
   ·show (C (j + 1)).low ≤ _
    rw [el]
    have := hI.step.low
    rw [hI.heap.low] at this
    exact Nat.le_trans (Nat.min_le_left _ _) this
   ·obtain ⟨k1, k2⟩ := hI.step.own c B hc hB ho
    obtain ⟨k3, k4⟩ := st.own c B (show c ≤ (C j).next by omega) (Nat.le_trans hB hI.step.size) (k1.sub ⟨hsub.obs, hsub.fams⟩)
    refine ⟨k3.sub hsubH, fun hcl => ?_⟩
    have hcl : c ≤ (C (j + 1)).low := hcl
    rw [el] at hcl
    exact (k2 (by rw [hI.heap.low]; exact Nat.le_trans hcl (Nat.min_le_left _ _))).trans (k4 (Nat.le_trans hcl (Nat.min_le_right _ _)))
  ·rw [hin]
   by_cases hm : μ x = none
   ·have h4 := (st.dom x hm h3).2
    omega
   ·have := (inJ x).1 (hI.unm x h1 h2 hm)
    omega
end
end Go.AE
namespace Go.AE
open Go.RowKit (Below)
variable {P : Program} {E : Ev} {ops : Array Oper} {L : List Rec} {T : Nat → Tm} {C : Nat → St}
abbrev Done (listed : Array Bool) : Nat → Prop := fun j => listed.getD j false = true
theorem done_set {listed : Array Bool} {j : Nat} (hj : j < listed.size) : Done (listed.setIfInBounds j true) = Add (Done listed) j := by
 funext i
 simp only [Done, Add, Array.getD_eq_getD_getElem?]
 by_cases e : i = j
 ·subst e; simp [hj]
 ·rw [Array.getElem?_setIfInBounds_ne (fun h => e h.symm)]; simp [e]
theorem count_set {listed : Array Bool} {j : Nat} (hj : j < listed.size) (hf : listed.getD j true = false) : (listed.setIfInBounds j true).toList.count false + 1 = listed.toList.count false := by
 have e : listed.toList[j]'(by simpa using hj) = false := by
  have : listed[j]'hj = false := by simpa [Array.getD, hj] using hf
  simpa using this
 rw [Array.toList_setIfInBounds, List.count_set (by simpa using hj)]
 have hpos : 0 < listed.toList.count false := List.count_pos_iff.2 (by rw [← e]; exact List.getElem_mem _)
 rw [if_pos (by rw [e]; rfl), if_neg (by simp)]
 omega
theorem draw_any {n : Nat} {μ₀ : Mu} {w₀ : World} (h : Plan P E ops L T C) (hE : EvOk P n E) (hok : tmpsOk ops (Region.before ops) = true) (hedge : edgesOk ops = true) (hF : Free μ₀ (C 0) (C ops.size))
    {Q : Exit → Act → World → Prop} (hQ : ∀ a' w' μ', Step μ₀ (C 0) w₀ μ' (C ops.size) w' → TmR w' μ' (T ops.size) a'.tmps → a'.defers = [] → Q .normal a' w') :
    ∀ (fuel : Nat) (listed : Array Bool) (a : Act) (w : World) (b e : Nat) (μ : Mu) (A : St), listed.size = ops.size → listed.toList.count false ≤ fuel → Closed L (Done listed) →
     Inv ops L T C μ₀ w₀ (Done listed) b e μ A a w → wpAny P .any ops Q fuel listed a w := by
 have ready_bits : ∀ {listed : Array Bool}, Closed L (Done listed) → ∀ {j : Nat} {r : Rec}, L[j]? = some r → j ∈ Region.ready .any ops listed → ∀ i, r.b.testBit i = true → Done listed i := by
  intro listed hcl j r hr hj i hi
  obtain ⟨_, o, ho, hall⟩ := mem_ready.1 hj
  obtain ⟨e, e1, e2, e3⟩ := before_bit (h.bit j r hr) ho hi
  have hd := hall e (by simpa using e1) e2
  rcases e3 with rfl | ⟨b', q1, q2⟩
  ·exact hd
  ·obtain ⟨q, hq⟩ := h.at' (j := e.on) (by have := edgesOk_spec hedge ho e1 e2; have := (Array.getElem?_eq_some_iff.1 ho).1; omega)
   have := h.bit _ _ hq
   rw [q1] at this; cases this
   exact hcl _ _ hq hd i q2
 have all_done : ∀ {listed : Array Bool}, listed.size = ops.size → Region.ready .any ops listed = [] → ∀ j, j < ops.size → Done listed j := by
  intro listed hsz hnil j
  induction j using Nat.strongRecOn with
  | _ j ih =>
   intro hj
   cases hd : listed.getD j true with
   | true =>
    have : listed.getD j false = true := by
     simp only [Array.getD, hsz, hj, dif_pos] at hd ⊢; exact hd
    exact this
   | false =>
    have : j ∈ Region.ready .any ops listed := mem_ready.2 ⟨hd, ops[j], by simp [hj], fun e he hb => by
     have hlt := edgesOk_spec hedge (j := j) (o := ops[j]) (by simp [hj]) (by simpa using he) hb
     exact ih e.on hlt (by omega)⟩
    rw [hnil] at this; cases this
 have fin : ∀ {listed : Array Bool} {a : Act} {w : World} {b e : Nat} {μ : Mu} {A : St}, (∀ j, j < ops.size → Done listed j) → Inv ops L T C μ₀ w₀ (Done listed) b e μ A a w → Q .normal a w := by
  intro listed a w b e μ A hall hI
  have he : e = ops.size := by
   rcases hI.seg.last with hl | ⟨r, h1, _, h3⟩
   ·exact hl
   ·exact absurd (hall e (by have := get_lt h1; have := h.len; omega)) h3
  subst he
  have hin : ∀ x, x < (C ops.size).next → In C ops.size (Done listed) x := fun x hx => by
   rcases Nat.lt_or_ge x (C 0).next with h0 | h0
   ·exact .inl h0
   ·obtain ⟨m, q, h1, h2, h3, h4, _⟩ := h.owner (Nat.le_refl _) h0 hx
    exact .inr ⟨m, h2, hall m h2, h3, h4⟩
  have hsub : Sub (C ops.size) A := hI.heap.sub (h.wf _) (fun _ _ => ⟨rfl, rfl⟩) hin
  have s := hI.step
  refine hQ a w μ ⟨s.le, s.ext, s.rel.sub hsub (h.wf _), fun x h1 h2 => by rw [← hI.heap.next]; exact s.dom x h1 h2, by rw [← hI.heap.next]; exact s.nx, by rw [← hI.heap.low]; exact s.low, s.size, s.os, s.tape, s.output, fun c B hc hB ho => ?_⟩ ?_ hI.defers
  ·obtain ⟨k1, k2⟩ := s.own c B hc hB ho
   exact ⟨k1.sub hsub, by rw [← hI.heap.low]; exact k2⟩
  ·refine ⟨by rw [h.tn (Nat.le_refl _)]; exact hI.tm.1, fun k => ?_⟩
   obtain ⟨p, hp, _, h2, h3⟩ := hI.tm.2 k
   rw [h.tget (k := k) hp (Nat.le_refl _) fun m q hq hm1 hm2 hd => h2 m q hq hm1 hd (hall m hm2)]
   exact h3
 intro fuel
 induction fuel with
 | zero =>
  intro listed a w b e μ A hsz hc hcl hI
  have hnil : Region.ready .any ops listed = [] := by
   cases hr : Region.ready .any ops listed with
   | nil => rfl
   | cons j rest =>
    have hj : j ∈ Region.ready .any ops listed := by rw [hr]; exact List.mem_cons_self
    obtain ⟨h1, o, h2, _⟩ := mem_ready.1 hj
    have hjs : j < listed.size := by rw [hsz]; exact (Array.getElem?_eq_some_iff.1 h2).1
    have := count_set hjs h1
    omega
  exact ⟨hnil, fin (all_done hsz hnil) hI⟩
 | succ fuel ih =>
  intro listed a w b e μ A hsz hc hcl hI
  refine ⟨fun hnil => fin (all_done hsz hnil) hI, fun j hj => ?_⟩
  obtain ⟨h1, o, h2, _⟩ := mem_ready.1 hj
  have hjo : j < ops.size := (Array.getElem?_eq_some_iff.1 h2).1
  have hjs : j < listed.size := by omega
  obtain ⟨r, hr⟩ := h.at' hjo
  have hnd : ¬ Done listed j := by
   intro hd
   have hd : listed.getD j false = true := hd
   simp only [Array.getD, hjs, dif_pos] at hd h1
   rw [hd] at h1; cases h1
  have hbits := ready_bits hcl hr hj
  refine inv_step h hE hok hcl hI hr hnd hbits fun b' e' μ' A' a' w' hI' => ?_
  refine ih _ a' w' b' e' μ' A' (by simp [hsz]) (by have := count_set hjs h1; omega) ?_ (by rw [done_set hjs]; exact hI')
  rw [done_set hjs]
  rintro i q hq (rfl | hi) m hm
  ·rw [hr] at hq; cases hq; exact .inr (hbits m hm)
  ·exact .inr (hcl i q hq hi m hm)
theorem draw_sound {n : Nat} (hE : EvOk P n E) (hm : P.follows .mixedOrders = true) : DrawOk P E := by
 intro ops id t H t' H' hr Q a w μ hR hW hF hT hd hQ
 unfold evRegion at hr
 simp only [cond_true] at hr
 obtain ⟨hc, hr⟩ := zBS hr
 simp only [Bool.and_eq_true] at hc
 obtain ⟨L, hg, hlen⟩ := evDraw_good (t₀ := t) (H₀ := H) (L := []) hE.abs hr (.nil hW) ⟨rfl, rfl, fun m q hq => (by cases hq), ⟨fun m q hq => (by cases hq), fun x hx => (by cases hx), List.Pairwise.nil⟩, fun x hx => (by cases hx), fun m q hq => (by cases hq)⟩
 obtain ⟨hp, e1, e2, e3, e4⟩ := hg.plan hlen
 refine wp_region_any hm ?_
 have hstep := Step.drew hR (w.drawn + 1)
 have nd : ∀ j, ¬ Done (Array.replicate ops.size false) j := fun j hj => by
  simp only [Done, Array.getD_eq_getD_getElem?, Array.getElem?_replicate] at hj
  split at hj <;> cases hj
 obtain ⟨e, q1, q2, q3, q4⟩ := hp.nextWrite (Nat.zero_le _)
 have hag := hp.agree (Nat.zero_le e) q2 q3
 have hmono := hp.mono (Nat.zero_le e) q2
 have hin : ∀ x, In (cAt L H') ops.size (Done (Array.replicate ops.size false)) x ↔ x < (cAt L H' 0).next := fun x =>
  ⟨fun h => h.elim (fun h => h) fun ⟨i, _, h2, _⟩ => absurd h2 (nd i), .inl⟩
 have hwfA : WF { H with next := (cAt L H' e).next } := by
  rw [e2] at hmono
  exact ⟨fun x o ho => ⟨Nat.lt_of_lt_of_le (hW.obs x o ho).1 hmono, (hW.obs x o ho).2⟩, fun f fm hf => Nat.lt_of_lt_of_le (hW.fams f fm hf) hmono, hW.gen⟩
 refine draw_any (μ₀ := μ) (w₀ := w) hp hE hc.2 hc.1 (by rw [e2, e4]; exact hF) (fun a' w' μ' h1 h2 h3 => hQ a' w' μ' (by rw [e2, e4] at h1; exact h1) (by rw [e3] at h2; exact h2) h3)
  ops.size _ a _ 0 e μ { H with next := (cAt L H' e).next } (by simp) (by simp) (fun j r hr hj => absurd hj (nd j)) ?_
 refine ⟨⟨Nat.zero_le _, q2, q3, .inl rfl, ?_⟩, ⟨rfl, ?_, hwfA, fun x hx => ?_, fun x hx => ?_⟩, ?_, fun x h1 h2 h3 => ?_, ⟨by rw [e1]; exact hT.1, fun k => ?_⟩, hd⟩
 ·rcases q4 with q4 | ⟨r, h1, h2⟩
  ·exact .inl q4
  ·exact .inr ⟨r, h1, h2, nd e⟩
 ·show H.low = _
  rw [hag.1, e2]
 ·obtain ⟨k1, k2⟩ := hag.2 x ((hin x).1 hx)
  rw [e2] at k1 k2
  exact ⟨k1.symm, k2.symm⟩
 ·have hx : ¬ x < H.next := fun h => hx ((hin x).2 (by rw [e2]; exact h))
  constructor
  ·cases ho : H.obs.get x with
   | none => rfl
   | some o => exact absurd (hW.obs x o ho).1 hx
  ·cases ho : H.fams.get x with
   | none => rfl
   | some o => exact absurd (hW.fams x o ho) hx
 ·rw [e2]
  rw [e2] at hmono
  refine ⟨hstep.le, hstep.ext, hstep.rel.sub ⟨fun _ _ h => h, fun _ _ h => h⟩ hwfA, fun x h1 h2 => absurd h1 h2, hmono, Nat.le_refl _, hstep.size, hstep.os, hstep.tape, hstep.output, fun c B hc hB ho => ⟨?_, fun _ => ⟨rfl, rfl, rfl, Nat.le_refl _, fun _ _ => rfl⟩⟩⟩
  exact ho.sub ⟨fun _ _ h => h, fun _ _ h => h⟩
 ·rw [e2] at h1; rw [e4] at h2
  exact absurd (hF x h1 h2) h3
 ·refine ⟨0, Nat.zero_le _, fun i r _ hi _ => by omega, fun i r _ _ _ => nd i, ?_⟩
  rw [e1]
  exact (hT.2 k).mono (.refl _) hstep.ext
theorem ev_ok (hm : P.follows .mixedOrders = true) : ∀ n, EvOk P n (ev P n)
 | 0 => ⟨ev_abs P 0, fun h => (nomatch h), fun h => (nomatch h)⟩
 | n + 1 =>
  have hE := ev_ok hm n
  ⟨ev_abs P (n + 1), fun h => evCall_sound hE (draw_sound hE hm) h, fun h => evLoop_sound hE (draw_sound hE hm) h⟩
theorem ev_calls (hm : P.follows .mixedOrders = true) {n : Nat} {f : FuncId} {v : Value} {H' : St} (h : (ev P n).call f [] St.empty = some (v, H')) (w : World) :
    Calls P f #[] w fun e w' => ∃ v' μ', e = .returned v' ∧ VR w' μ' v v' ∧ Rel μ' H' w' ∧ Below w.heap.size w w' := by
 have hW : WF St.empty := ⟨fun b o h => (by simp [St.empty] at h), fun b o h => (by simp [St.empty] at h), fun b c f g h => (by simp [St.empty] at h)⟩
 have hR : Rel (fun _ => none) St.empty w := ⟨fun _ _ _ _ h => (by cases h), fun b off v h => (by simp [St.empty, St.cell?] at h), fun b c f fm h => (by simp [St.empty, St.rwb] at h), fun b c f fm C d z h => (by simp [St.empty, St.rwb] at h),
  fun b es h => (by simp [St.empty, St.map?] at h), fun b b' es es' C z z' d d' h => (by simp [St.empty, St.map?] at h), fun b o h => (by simp [St.empty] at h), fun b o h => (by simp [St.empty] at h), fun b c f g h => (by simp [St.empty] at h)⟩
 refine Calls.mono ((ev_ok hm n).call h hR hW (fun _ _ _ => rfl) .nil) ?_
 rintro e w' ⟨v', μ', rfl, h1, h2⟩
 refine ⟨v', μ', rfl, h2, h1.rel, ?_⟩
 exact (h1.own 0 w.heap.size (Nat.zero_le _) (Nat.le_refl _) ⟨fun b x f fm C d z h => (by simp [St.empty, St.rwb] at h), fun b es C d z h => (by simp [St.empty, St.map?] at h)⟩).2 (Nat.zero_le _)
end Go.AE
namespace Go.AE
open Go.RowKit (Below)
variable {P : Program}
def Fresh (μ : Mu) (H : St) : Prop := ∀ b, H.next ≤ b → μ b = none
theorem Fresh.step {μ μ' : Mu} {H H' : St} {w w' : World} (h : Fresh μ H) (s : Step μ H w μ' H' w') : Fresh μ' H' := fun b hb => by
 cases e : μ' b with
 | none => rfl
 | some x =>
  have h0 : μ b = none := h b (by have := s.nx; omega)
  have := (s.dom b h0 (by rw [e]; simp)).2
  omega
theorem Fresh.free {μ : Mu} {H H' : St} (h : Fresh μ H) : Free μ H H' := fun b hb _ => h b hb
structure At (μ : Mu) (H : St) (w : World) : Prop where
 rel : Rel μ H w
 wf : WF H
 fresh : Fresh μ H
def CallT (P : Program) (f : FuncId) (args : List Value) (H : St) (Q : Value → St → Prop) : Prop :=
 ∀ ⦃μ : Mu⦄ ⦃w : World⦄ ⦃args' : Array Value⦄, At μ H w → VRs w μ args args'.toList →
  Calls P f args' w fun e w' => ∃ v v' H' μ', e = .returned v' ∧ Q v H' ∧ Step μ H w μ' H' w' ∧ WF H' ∧ VR w' μ' v v'
def CodeT (P : Program) (c : Code) (t : Tm) (H : St) (Q : Ex → Tm → St → Prop) : Prop :=
 ∀ ⦃R : Exit → Act → World → Prop⦄ ⦃a : Act⦄ ⦃w : World⦄ ⦃μ : Mu⦄, At μ H w → TmR w μ t a.tmps → a.defers = [] →
  (∀ ex t' H' a' w' μ', Q ex t' H' → Step μ H w μ' H' w' → WF H' → TmR w' μ' t' a'.tmps → a'.defers = [] → R ex.to a' w') → c.wp P R a w
def OpsT (P : Program) (ops : Array Oper) (k : Nat) (l : List Oper) (t : Tm) (H : St) (Q : Tm → St → Prop) : Prop :=
 ∀ ⦃R : Exit → Act → World → Prop⦄ ⦃a : Act⦄ ⦃w : World⦄ ⦃μ : Mu⦄, At μ H w → TmR w μ t a.tmps → a.defers = [] →
  (∀ t' H' a' w' μ', Q t' H' → Step μ H w μ' H' w' → WF H' → TmR w' μ' t' a'.tmps → a'.defers = [] → R .normal a' w') → wpOps P ops R (List.range' k l.length) a w
theorem At.step {μ μ' : Mu} {H H' : St} {w w' : World} (h : At μ H w) (s : Step μ H w μ' H' w') (hw : WF H') : At μ' H' w' := ⟨s.rel, hw, h.fresh.step s⟩
variable {t t' : Tm} {H H' : St} {c x y : Code}
theorem CallT.mono {f : FuncId} {args : List Value} {Q Q' : Value → St → Prop} (h : CallT P f args H Q) (hq : ∀ v H', Q v H' → Q' v H') : CallT P f args H Q' :=
 fun μ w args' ha hv => Calls.mono (h ha hv) fun _ _ ⟨v, v', H', μ', a, b, c⟩ => ⟨v, v', H', μ', a, hq _ _ b, c⟩
theorem CodeT.mono {Q Q' : Ex → Tm → St → Prop} (h : CodeT P c t H Q) (hq : ∀ ex t' H', Q ex t' H' → Q' ex t' H') : CodeT P c t H Q' :=
 fun R a w μ ha ht hd hR => h ha ht hd fun ex t' H' a' w' μ' q => hR ex t' H' a' w' μ' (hq _ _ _ q)
theorem codeT_skip {Q : Ex → Tm → St → Prop} (h : Q .normal t H) : CodeT P .skip t H Q := fun R a w μ ha ht hd hR => wp_skip (hR .normal t H a w μ h (.refl ha.rel) ha.wf ht hd)
theorem codeT_exit {Q : Ex → Tm → St → Prop} {id : Nat} (h : Q (.exit id) t H) : CodeT P (.exit id) t H Q := fun R a w μ ha ht hd hR => wp_exit (hR (.exit id) t H a w μ h (.refl ha.rel) ha.wf ht hd)
theorem codeT_ret {Q : Ex → Tm → St → Prop} (h : Q .ret t H) : CodeT P .ret t H Q := fun R a w μ ha ht hd hR => wp_ret (hR .ret t H a w μ h (.refl ha.rel) ha.wf ht hd)
def thenT (P : Program) (y : Code) (Q : Ex → Tm → St → Prop) : Ex → Tm → St → Prop
 | .normal, t, H => CodeT P y t H Q
 | ex, t, H => Q ex t H
theorem codeT_seq {Q : Ex → Tm → St → Prop} (h : CodeT P x t H (thenT P y Q)) : CodeT P (.seq x y) t H Q := fun R a w μ ha ht hd hR => by
 refine wp_seq (h ha ht hd fun ex t1 H1 a1 w1 μ1 hq hs hw hT hd1 => ?_)
 cases ex with
 | normal =>
  exact hq (ha.step hs hw) hT hd1 fun ex t' H' a' w' μ' q s hw' hT' hd' => hR ex t' H' a' w' μ' q (hs.trans s) hw' hT' hd'
 | exit id => exact hR _ t1 H1 a1 w1 μ1 hq hs hw hT hd1
 | ret => exact hR _ t1 H1 a1 w1 μ1 hq hs hw hT hd1
theorem codeT_cond {Q : Ex → Tm → St → Prop} {o : Operand} {b : Bool} (ho : t.ev o = some (.bool b)) (h : CodeT P (if b then x else y) t H Q) : CodeT P (.cond o x y) t H Q := fun R a w μ ha ht hd hR =>
 wp_cond (ev_sound ht ho).bool_inv (h ha ht hd hR)
def blockT (id : Nat) (Q : Ex → Tm → St → Prop) : Ex → Tm → St → Prop
 | .exit id', t, H => if id' = id then Q .normal t H else Q (.exit id') t H
 | ex, t, H => Q ex t H
theorem codeT_block {Q : Ex → Tm → St → Prop} {id : Nat} (h : CodeT P c t H (blockT id Q)) : CodeT P (.block id c) t H Q := fun R a w μ ha ht hd hR => by
 refine wp_block (h ha ht hd fun ex t1 H1 a1 w1 μ1 hq hs hw hT hd1 => ?_)
 cases ex with
 | normal => exact hR _ t1 H1 a1 w1 μ1 hq hs hw hT hd1
 | ret => exact hR _ t1 H1 a1 w1 μ1 hq hs hw hT hd1
 | exit id' =>
  show (if id' = id then _ else _)
  have hq : (if id' = id then Q .normal t1 H1 else Q (.exit id') t1 H1) := hq
  by_cases e : id' = id
  ·rw [if_pos e] at hq ⊢; exact hR .normal t1 H1 a1 w1 μ1 hq hs hw hT hd1
  ·rw [if_neg e] at hq ⊢; exact hR (.exit id') t1 H1 a1 w1 μ1 hq hs hw hT hd1
def roundsT (P : Program) (c : Code) (Q : Ex → Tm → St → Prop) : Nat → Tm → St → Prop
 | 0, _, _ => False
 | n + 1, t, H => CodeT P c t H fun ex t' H' => match ex with | .normal => roundsT P c Q n t' H' | ex => Q ex t' H'
theorem codeT_loop_rounds {Q : Ex → Tm → St → Prop} (n : Nat) (h : roundsT P c Q n t H) : CodeT P (.loop c) t H Q := fun R a w μ ha ht hd hR => by
 refine wp_loop_rounds n ?_
 have key : ∀ n t H a w μ', roundsT P c Q n t H → At μ' H w → TmR w μ' t a.tmps → a.defers = [] → (∀ ex t' H' a' w' μ2, Q ex t' H' → Step μ' H w μ2 H' w' → WF H' → TmR w' μ2 t' a'.tmps → a'.defers = [] → R ex.to a' w') → Code.rounds P c R n a w := by
  intro n
  induction n with
  | zero => intro t H a w μ' h; exact h.elim
  | succ n ih =>
   intro t H a w μ' h ha ht hd hR
   rw [rounds_succ]
   refine h ha ht hd fun ex t1 H1 a1 w1 μ1 hq hs hw hT hd1 => ?_
   cases ex with
   | normal => exact ih t1 H1 a1 w1 μ1 hq (ha.step hs hw) hT hd1 fun ex t' H' a' w' μ' q s hw' hT' hd' => hR ex t' H' a' w' μ' q (hs.trans s) hw' hT' hd'
   | exit id => exact hR _ t1 H1 a1 w1 μ1 hq hs hw hT hd1
   | ret => exact hR _ t1 H1 a1 w1 μ1 hq hs hw hT hd1
 exact key n t H a w μ h ha ht hd hR
theorem codeT_loop {Q : Ex → Tm → St → Prop} (I : Nat → Tm → St → Prop) (n : Nat) (h0 : I n t H)
    (round : ∀ n t H, I n t H → CodeT P c t H fun ex t' H' => match ex with | .normal => ∃ m, m < n ∧ I m t' H' | ex => Q ex t' H') : CodeT P (.loop c) t H Q := by
 refine codeT_loop_rounds (n + 1) ?_
 have key : ∀ k n t H, n < k → I n t H → roundsT P c Q k t H := by
  intro k
  induction k with
  | zero => intro n t H hn; omega
  | succ k ih =>
   intro n t H hn hI
   refine (round n t H hI).mono fun ex t' H' hq => ?_
   cases ex with
   | normal => obtain ⟨m, hm, hI'⟩ := hq; exact ih m t' H' (by omega) hI'
   | exit id => exact hq
   | ret => exact hq
 exact key (n + 1) n t H (by omega) h0
theorem codeT_region {Q : Ex → Tm → St → Prop} {id : Nat} {ops : Array Oper} (h : OpsT P ops 0 ops.toList t H (Q .normal)) : CodeT P (.region id ops false) t H Q := fun R a w μ ha ht hd hR => by
 refine wp_region ?_
 have := h ha ht hd fun t' H' a' w' μ' q => hR .normal t' H' a' w' μ' q
 rwa [Array.length_toList, ← List.range_eq_range'] at this
theorem opsT_nil {ops : Array Oper} {k : Nat} {Q : Tm → St → Prop} (h : Q t H) : OpsT P ops k [] t H Q := fun R a w μ ha ht hd hR => hR t H a w μ h (.refl ha.rel) ha.wf ht hd
def postT (P : Program) (fn : Func) (Q : Value → St → Prop) : Ex → Tm → St → Prop
 | .normal, t, H | .ret, t, H => ∃ vs, zC1 P t H fn.results.toList = some vs ∧ Q (tupled vs) H
 | _, _, _ => False
theorem callT {f : FuncId} {fn : Func} {args : List Value} {Q : Value → St → Prop} (hf : P.funcs[f]? = some fn) (hc : fn.body = some c)
    (h : CodeT P c ⟨args.length + (fn.ntmps - args.length), Tr.setList .nil 0 args⟩ H (postT P fn Q)) : CallT P f args H Q := fun μ w args' ha hvs => by
 refine calls_of_wp hf hc (h ha (init_tmps hvs fn.ntmps) rfl fun ex t' H' a' w' μ' hq s hw hT hd => ?_)
 have fin : (∃ vs, zC1 P t' H' fn.results.toList = some vs ∧ Q (tupled vs) H') → a'.defers = [] ∧ ∃ v, (results fn a'.tmps).run P w' = .ok v w' ∧
     ∃ v0 v' H2 μ2, Ending.returned v = .returned v' ∧ Q v0 H2 ∧ Step μ H w μ2 H2 w' ∧ WF H2 ∧ VR w' μ2 v0 v' := by
  rintro ⟨vs, hvs1, hq⟩
  obtain ⟨vs', k1, k2⟩ := evResults_sound (P := P) s.rel hT hvs1
  have hres : (results fn a'.tmps).run P w' = .ok (if h : vs'.toArray.size = 1 then vs'.toArray[0] else .tuple vs'.toArray) w' := by
   rw [results_eq]; simp only [Sem.run_bind, k1, Result.andThen_ok, Sem.run_pure]
  exact ⟨hd, _, hres, _, _, H', μ', rfl, hq, s, hw, tupled_sound k2⟩
 cases ex with
 | normal => exact fin hq
 | ret => exact fin hq
 | exit id => exact hq.elim
theorem callT_closed (hm : P.follows .mixedOrders = true) {n : Nat} {f : FuncId} {v : Value} {H' : St} (h : (ev P n).call f [] St.empty = some (v, H')) (hv : scal v = true) (H : St) : CallT P f [] H fun u H2 => u = v ∧ H2 = H := by
 intro μ w args' ha hvs
 have e : args' = #[] := by cases hl : args'.toList with
  | nil => exact Array.ext' hl
  | cons x xs => rw [hl] at hvs; cases hvs
 subst e
 refine Calls.mono (ev_calls hm h w) ?_
 rintro e w' ⟨v', μ', rfl, h1, h2, h3⟩
 have e := h1.scal_eq hv
 subst e
 have hext : Ext w w' := fun x hx => by
  obtain ⟨a, b⟩ := hx
  have hlt : x.block < w.heap.size := by
   unfold World.cell? at a
   cases e : w.heap[x.block]? with
   | none => rw [e] at a; cases a
   | some _ => exact (Array.getElem?_eq_some_iff.1 e).1
  have e := h3.block x.block hlt
  unfold Live World.cell? World.frozen? at *
  rw [e]; exact ⟨a, b⟩
 exact ⟨v', v', H, μ, rfl, ⟨rfl, rfl⟩, ⟨.refl _, hext, ha.rel.below h3 hext, fun _ h h' => absurd h h', Nat.le_refl _, Nat.le_refl _, h3.size, h3.os, h3.tape, h3.output,
  fun c B _ hB ho => ⟨ho, fun _ => ⟨h3.os, h3.tape, h3.output, h3.size, fun k hk => h3.block k (by omega)⟩⟩⟩, ha.wf, .scal hv⟩
end Go.AE
namespace Go.AE
inductive PV where
 | sc (v : Value)
 | sl (z : Nat) (xs : List (List PV))
 | gl (f e z : Nat) (xs : List (List PV))
 | ea (z : Nat) (xs : List (List PV)) (i o : Nat)
 | pt (b off : Nat)
 | ms (b off n c : Nat)
 | mp (b : Nat)
 | ag (cs : List PV)
 | tp (cs : List PV)
 | fn (f : Fn) (first captured : List PV)
def Frozen (H : St) (X : Nat → Prop) (b : Nat) : Prop :=
 (∃ c, H.obs.get b = some (.ro c)) ∨ ∃ c f g fm, H.obs.get b = some (.rw c f g) ∧ H.fams.get f = some fm ∧ fm.gen = g ∧ ¬ X f
structure Cells (z : Nat) (xs : List (List PV)) (cell : Nat → Option Value) (off : Nat) (u : Nat → Nat → Value) : Prop where
 size : ∀ row ∈ xs, row.length = z
 get : ∀ (i j : Nat) (row : List PV) (x : PV), xs[i]? = some row → row[j]? = some x → cell (off + i * z + j) = some (u i j)
def CapOk (z n c : Nat) : Prop := c = unk + z ∨ (n ≤ c ∧ c ≤ 281474976710656)
inductive DV (H : St) (X : Nat → Prop) : PV → Value → Prop
 | sc {v : Value} : scal v = true → DV H X (.sc v) v
 | sn {z : Nat} : DV H X (.sl z []) (.slice none 0 0)
 | se {z : Nat} {a : Addr} {c : Nat} : DV H X (.sl z []) (.slice (some a) 0 c)
 | sl {z : Nat} {xs : List (List PV)} {b off n c : Nat} {u : Nat → Nat → Value} : n = xs.length ∧ CapOk z n c → Frozen H X b → Cells z xs (H.cell? b) off u →
     (∀ (i j : Nat) (row : List PV) (x : PV), xs[i]? = some row → row[j]? = some x → DV H X x (u i j)) → DV H X (.sl z xs) (.slice (some ⟨b, off, none⟩) n c)
 | gl {f e z : Nat} {xs : List (List PV)} {b off n : Nat} {u : Nat → Nat → Value} {c : Tr Value} {g : Nat} {fm : Fam} : n = xs.length → H.obs.get b = some (.rw c f g) → H.fams.get f = some fm → fm.gen = g → ¬ X f →
     e = off + n * z → fm.esz = z → z ≠ 0 → Cells z xs (H.cell? b) off u →
     (∀ (i j : Nat) (row : List PV) (x : PV), xs[i]? = some row → row[j]? = some x → DV H X x (u i j)) → DV H X (.gl f e z xs) (.slice (some ⟨b, off, none⟩) n (unk + z))
 | ea {z : Nat} {xs : List (List PV)} {i o : Nat} {b off : Nat} {u : Nat → Nat → Value} : Frozen H X b → Cells z xs (H.cell? b) off u →
     (∀ (i j : Nat) (row : List PV) (x : PV), xs[i]? = some row → row[j]? = some x → DV H X x (u i j)) → DV H X (.ea z xs i o) (.pointer (some ⟨b, off + i * z + o, none⟩))
 | pt {b off : Nat} : DV H X (.pt b off) (.pointer (some ⟨b, off, none⟩))
 | ms {b off n c : Nat} : DV H X (.ms b off n c) (.slice (some ⟨b, off, none⟩) n c)
 | mp {b : Nat} : DV H X (.mp b) (.map (some b))
 | ag {cs : List PV} {c : Array Value} : cs.length = c.toList.length → (∀ (i : Nat) (x : PV) (u : Value), cs[i]? = some x → c.toList[i]? = some u → DV H X x u) → DV H X (.ag cs) (.agg c)
 | tp {cs : List PV} {c : Array Value} : cs.length = c.toList.length → (∀ (i : Nat) (x : PV) (u : Value), cs[i]? = some x → c.toList[i]? = some u → DV H X x u) → DV H X (.tp cs) (.tuple c)
 | fn {f : Fn} {l m : List PV} {c d : Array Value} : l.length = c.toList.length → (∀ (i : Nat) (x : PV) (u : Value), l[i]? = some x → c.toList[i]? = some u → DV H X x u) →
     m.length = d.toList.length → (∀ (i : Nat) (x : PV) (u : Value), m[i]? = some x → d.toList[i]? = some u → DV H X x u) → DV H X (.fn f l m) (.func f c d)
structure Keep (X : Nat → Prop) (H H' : St) : Prop where
 ro : ∀ b c, H.obs.get b = some (.ro c) → H'.obs.get b = some (.ro c)
 rw : ∀ b c f g fm, H.obs.get b = some (.rw c f g) → H.fams.get f = some fm → fm.gen = g → ¬ X f → H'.obs.get b = some (.rw c f g) ∧ ∃ fm', H'.fams.get f = some fm' ∧ fm'.gen = g ∧ fm'.esz = fm.esz
theorem Keep.refl (X : Nat → Prop) (H : St) : Keep X H H := ⟨fun _ _ h => h, fun b c f g fm h1 h2 h3 _ => ⟨h1, fm, h2, h3, rfl⟩⟩
theorem Keep.trans {X : Nat → Prop} {A B C : St} (h : Keep X A B) (k : Keep X B C) : Keep X A C :=
 ⟨fun b c e => k.ro b c (h.ro b c e), fun b c f g fm h1 h2 h3 h4 => by
  obtain ⟨q1, fm', q2, q3, q4⟩ := h.rw b c f g fm h1 h2 h3 h4
  obtain ⟨r1, fm2, r2, r3, r4⟩ := k.rw b c f g fm' q1 q2 q3 h4
  exact ⟨r1, fm2, r2, r3, r4.trans q4⟩⟩
theorem Frozen.keep {X : Nat → Prop} {H H' : St} {b : Nat} (h : Frozen H X b) (k : Keep X H H') : Frozen H' X b := by
 rcases h with ⟨c, h⟩ | ⟨c, f, g, fm, h1, h2, h3, h4⟩
 ·exact .inl ⟨c, k.ro b c h⟩
 ·obtain ⟨q1, fm', q2, q3, _⟩ := k.rw b c f g fm h1 h2 h3 h4
  exact .inr ⟨c, f, g, fm', q1, q2, q3, h4⟩
theorem Frozen.cell {X : Nat → Prop} {H H' : St} {b off : Nat} (h : Frozen H X b) (k : Keep X H H') : H'.cell? b off = H.cell? b off := by
 rcases h with ⟨c, h⟩ | ⟨c, f, g, fm, h1, h2, h3, h4⟩
 ·unfold St.cell?; rw [h, k.ro b c h]
 ·obtain ⟨q1, fm', q2, q3, _⟩ := k.rw b c f g fm h1 h2 h3 h4
  unfold St.cell?; rw [h1, q1]
  dsimp only
  rw [h2, q2]
  dsimp only
  rw [h3, q3]
theorem Cells.keep {z : Nat} {xs : List (List PV)} {off : Nat} {u : Nat → Nat → Value} {H H' : St} {X : Nat → Prop} {b : Nat} (h : Cells z xs (H.cell? b) off u) (hf : Frozen H X b) (k : Keep X H H') : Cells z xs (H'.cell? b) off u :=
 ⟨h.size, fun i j row x h1 h2 => by rw [hf.cell k]; exact h.get i j row x h1 h2⟩
theorem DV.keep {X : Nat → Prop} {H H' : St} {p : PV} {v : Value} (h : DV H X p v) (k : Keep X H H') : DV H' X p v := by
 induction h with
 | sc h => exact .sc h
 | sn => exact .sn
 | se => exact .se
 | sl h1 h2 h3 _ ih => exact .sl h1 (h2.keep k) (h3.keep h2 k) ih
 | gl h1 h2 h3 h4 h5 h6 h7 h8 h9 _ ih =>
  obtain ⟨q1, fm', q2, q3, q4⟩ := k.rw _ _ _ _ _ h2 h3 h4 h5
  exact .gl h1 q1 q2 q3 h5 h6 (q4.trans h7) h8 (h9.keep (.inr ⟨_, _, _, _, h2, h3, h4, h5⟩) k) ih
 | ea h1 h2 _ ih => exact .ea (h1.keep k) (h2.keep h1 k) ih
 | pt => exact .pt
 | ms => exact .ms
 | mp => exact .mp
 | ag h _ ih => exact .ag h ih
 | tp h _ ih => exact .tp h ih
 | fn h1 _ h2 _ ih1 ih2 => exact .fn h1 ih1 h2 ih2
end Go.AE
namespace Go.AE
structure VSt where
 next : Nat
 mem : Nat → Option (List PV)
 maps : Nat → Option (List (Value × PV))
 grow : Nat → Option Nat
 fz : Nat → Nat × Nat
def VSt.fo (s : VSt) (b : Nat) : Nat := (s.fz b).1
def VSt.ez (s : VSt) (b : Nat) : Nat := (s.fz b).2
def Own' (s : VSt) : Nat → Prop := fun f => ∃ b cs, s.mem b = some cs ∧ s.fo b = f
structure SatV (s : VSt) (H : St) : Prop where
 next : s.next = H.next
 wf : WF H
 mem : ∀ b cs, s.mem b = some cs → ∃ c g fm, H.obs.get b = some (.rw c (s.fo b) g) ∧ H.fams.get (s.fo b) = some fm ∧ fm.gen = g ∧ ∀ (i : Nat) (x : PV), cs[i]? = some x → ∃ u, c.get i = some u ∧ DV H (Own' s) x u
 maps : ∀ b es, s.maps b = some es → ∃ es', H.obs.get b = some (.map es') ∧ es'.length = es.length ∧ ∀ (i : Nat) (e : Value × PV), es[i]? = some e → ∃ e', es'[i]? = some e' ∧ e'.1 = e.1 ∧ DV H (Own' s) e.2 e'.2
 grow : ∀ f e, s.grow f = some e → ¬ Own' s f ∧ ∃ fm, H.fams.get f = some fm ∧ fm.ext = e
 inj : ∀ b b' cs cs', s.mem b = some cs → s.mem b' = some cs' → s.fo b = s.fo b' → b = b'
 ext : ∀ b cs, s.mem b = some cs → ∃ fm, H.fams.get (s.fo b) = some fm ∧ fm.ext = cs.length ∧ (s.ez b ≠ 0 → fm.esz = s.ez b)
structure Fr (s : VSt) (H : St) (s' : VSt) (H' : St) : Prop where
 keep : Keep (Own' s) H H'
 next : s.next ≤ s'.next
 own : ∀ f, f < s.next → Own' s' f → Own' s f
theorem Frozen.fr {X X' : Nat → Prop} {H H' : St} {b : Nat} (hw : WF H) (h : Frozen H X b) (k : Keep X H H') (hx : ∀ f, f < H.next → X' f → X f) : Frozen H' X' b := by
 rcases h with ⟨c, h⟩ | ⟨c, f, g, fm, h1, h2, h3, h4⟩
 ·exact .inl ⟨c, k.ro b c h⟩
 ·obtain ⟨q1, fm', q2, q3, _⟩ := k.rw b c f g fm h1 h2 h3 h4
  exact .inr ⟨c, f, g, fm', q1, q2, q3, fun hf => h4 (hx f (hw.fams f fm h2) hf)⟩
theorem DV.fr {X X' : Nat → Prop} {H H' : St} {p : PV} {v : Value} (hw : WF H) (h : DV H X p v) (k : Keep X H H') (hx : ∀ f, f < H.next → X' f → X f) : DV H' X' p v := by
 induction h with
 | sc h => exact .sc h
 | sn => exact .sn
 | se => exact .se
 | sl h1 h2 h3 _ ih => exact .sl h1 (h2.fr hw k hx) (h3.keep h2 k) ih
 | gl h1 h2 h3 h4 h5 h6 h7 h8 h9 _ ih =>
  obtain ⟨q1, fm', q2, q3, q4⟩ := k.rw _ _ _ _ _ h2 h3 h4 h5
  exact .gl h1 q1 q2 q3 (fun hf => h5 (hx _ (hw.fams _ _ h3) hf)) h6 (q4.trans h7) h8 (h9.keep (.inr ⟨_, _, _, _, h2, h3, h4, h5⟩) k) ih
 | ea h1 h2 _ ih => exact .ea (h1.fr hw k hx) (h2.keep h1 k) ih
 | pt => exact .pt
 | ms => exact .ms
 | mp => exact .mp
 | ag h _ ih => exact .ag h ih
 | tp h _ ih => exact .tp h ih
 | fn h1 _ h2 _ ih1 ih2 => exact .fn h1 ih1 h2 ih2
theorem Fr.refl (s : VSt) (H : St) : Fr s H s H := ⟨.refl _ _, Nat.le_refl _, fun _ _ h => h⟩
theorem Keep.weaken {X X' : Nat → Prop} {A B : St} (hw : WF A) (h : Keep X A B) (hx : ∀ f, f < A.next → X f → X' f) : Keep X' A B :=
 ⟨h.ro, fun b c f g fm h1 h2 h3 h4 => h.rw b c f g fm h1 h2 h3 fun hf => h4 (hx f (hw.fams f fm h2) hf)⟩
theorem Fr.trans {s s1 s2 : VSt} {H H1 H2 : St} (n0 : s.next = H.next) (w0 : WF H) (n1 : s1.next = H1.next) (h : Fr s H s1 H1) (k : Fr s1 H1 s2 H2) : Fr s H s2 H2 where
 keep := ⟨fun b c e => k.keep.ro b c (h.keep.ro b c e), fun b c f g fm h1 h2 h3 h4 => by
  obtain ⟨q1, fm', q2, q3, q4⟩ := h.keep.rw b c f g fm h1 h2 h3 h4
  have hf := w0.fams f fm h2
  obtain ⟨r1, fm2, r2, r3, r4⟩ := k.keep.rw b c f g fm' q1 q2 q3 fun ho => h4 (h.own f (by omega) ho)
  exact ⟨r1, fm2, r2, r3, r4.trans q4⟩⟩
 next := Nat.le_trans h.next k.next
 own := fun f hf ho => h.own f hf (k.own f (Nat.lt_of_lt_of_le hf h.next) ho)
structure VTm where
 n : Nat
 m : Nat → PV
def TmV (H : St) (X : Nat → Prop) (t : VTm) (T : Tm) : Prop := t.n = T.n ∧ ∀ k, DV H X (t.m k) ((T.m.get k).getD undef)
theorem TmV.fr {H H' : St} {s s' : VSt} {t : VTm} {T : Tm} (hs : SatV s H) (h : TmV H (Own' s) t T) (f : Fr s H s' H') : TmV H' (Own' s') t T :=
 ⟨h.1, fun k => (h.2 k).fr hs.wf f.keep fun x hx => f.own x (by rw [hs.next]; exact hx)⟩
inductive DVs (H : St) (X : Nat → Prop) : List PV → List Value → Prop
 | nil : DVs H X [] []
 | cons {p : PV} {v : Value} {ps : List PV} {vs : List Value} : DV H X p v → DVs H X ps vs → DVs H X (p :: ps) (v :: vs)
def VCall (P : Program) (f : FuncId) (args : List PV) (s : VSt) (Q : PV → VSt → Prop) : Prop :=
 ∀ ⦃H : St⦄ ⦃vs : List Value⦄, SatV s H → DVs H (Own' s) args vs → CallT P f vs H fun v H' => ∃ p s', Q p s' ∧ SatV s' H' ∧ DV H' (Own' s') p v ∧ Fr s H s' H'
def VCode (P : Program) (c : Code) (t : VTm) (s : VSt) (Q : Ex → VTm → VSt → Prop) : Prop :=
 ∀ ⦃H : St⦄ ⦃T : Tm⦄, SatV s H → TmV H (Own' s) t T → CodeT P c T H fun ex T' H' => ∃ t' s', Q ex t' s' ∧ SatV s' H' ∧ TmV H' (Own' s') t' T' ∧ Fr s H s' H'
def VOps (P : Program) (ops : Array Oper) (k : Nat) (l : List Oper) (t : VTm) (s : VSt) (Q : VTm → VSt → Prop) : Prop :=
 ∀ ⦃H : St⦄ ⦃T : Tm⦄, SatV s H → TmV H (Own' s) t T → OpsT P ops k l T H fun T' H' => ∃ t' s', Q t' s' ∧ SatV s' H' ∧ TmV H' (Own' s') t' T' ∧ Fr s H s' H'
variable {P : Program} {c x y : Code} {t : VTm} {s : VSt}
theorem VCode.mono {Q Q' : Ex → VTm → VSt → Prop} (h : VCode P c t s Q) (hq : ∀ ex t' s', Q ex t' s' → Q' ex t' s') : VCode P c t s Q' :=
 fun H T hs ht => (h hs ht).mono fun ex T' H' ⟨t', s', a, b⟩ => ⟨t', s', hq _ _ _ a, b⟩
theorem zAM {Q : Ex → VTm → VSt → Prop} (h : Q .normal t s) : VCode P .skip t s Q := fun H T hs ht => codeT_skip ⟨t, s, h, hs, ht, .refl _ _⟩
theorem zA1 {Q : Ex → VTm → VSt → Prop} {id : Nat} (h : Q (.exit id) t s) : VCode P (.exit id) t s Q := fun H T hs ht => codeT_exit ⟨t, s, h, hs, ht, .refl _ _⟩
theorem zAJ {Q : Ex → VTm → VSt → Prop} (h : Q .ret t s) : VCode P .ret t s Q := fun H T hs ht => codeT_ret ⟨t, s, h, hs, ht, .refl _ _⟩
def vthen (P : Program) (y : Code) (Q : Ex → VTm → VSt → Prop) : Ex → VTm → VSt → Prop
 | .normal, t, s => VCode P y t s Q
 | ex, t, s => Q ex t s
theorem zAA {Q : Ex → VTm → VSt → Prop} (h : VCode P x t s (vthen P y Q)) : VCode P (.seq x y) t s Q := fun H T hs ht => by
 refine codeT_seq ((h hs ht).mono fun ex T1 H1 ⟨t1, s1, hq, hs1, ht1, hf⟩ => ?_)
 cases ex with
 | normal => exact CodeT.mono (hq hs1 ht1) fun ex T2 H2 ⟨t2, s2, hq2, hs2, ht2, hf2⟩ => ⟨t2, s2, hq2, hs2, ht2, hf.trans hs.next hs.wf hs1.next hf2⟩
 | exit id => exact ⟨t1, s1, hq, hs1, ht1, hf⟩
 | ret => exact ⟨t1, s1, hq, hs1, ht1, hf⟩
def vblock (id : Nat) (Q : Ex → VTm → VSt → Prop) : Ex → VTm → VSt → Prop
 | .exit id', t, s => if id' = id then Q .normal t s else Q (.exit id') t s
 | ex, t, s => Q ex t s
theorem zAL {Q : Ex → VTm → VSt → Prop} {id : Nat} (h : VCode P c t s (vblock id Q)) : VCode P (.block id c) t s Q := fun H T hs ht => by
 refine codeT_block ((h hs ht).mono fun ex T1 H1 ⟨t1, s1, hq, hs1, ht1, hf⟩ => ?_)
 cases ex with
 | normal => exact ⟨t1, s1, hq, hs1, ht1, hf⟩
 | ret => exact ⟨t1, s1, hq, hs1, ht1, hf⟩
 | exit id' =>
  have hq : (if id' = id then Q .normal t1 s1 else Q (.exit id') t1 s1) := hq
  show (if id' = id then _ else _)
  by_cases e : id' = id
  ·rw [if_pos e] at hq ⊢; exact ⟨t1, s1, hq, hs1, ht1, hf⟩
  ·rw [if_neg e] at hq ⊢; exact ⟨t1, s1, hq, hs1, ht1, hf⟩
theorem vcode_loop {Q : Ex → VTm → VSt → Prop} (I : Nat → VTm → VSt → Prop) (n : Nat) (h0 : I n t s)
    (round : ∀ n t s, I n t s → VCode P c t s fun ex t' s' => match ex with | .normal => ∃ m, m < n ∧ I m t' s' | ex => Q ex t' s') : VCode P (.loop c) t s Q := fun H T hs ht => by
 refine codeT_loop (fun m T' H' => ∃ t' s', I m t' s' ∧ SatV s' H' ∧ TmV H' (Own' s') t' T' ∧ Fr s H s' H') n ⟨t, s, h0, hs, ht, .refl _ _⟩ ?_
 rintro m T1 H1 ⟨t1, s1, hI, hs1, ht1, hf1⟩
 refine (round m t1 s1 hI hs1 ht1).mono fun ex T2 H2 ⟨t2, s2, hq, hs2, ht2, hf2⟩ => ?_
 have hf := hf1.trans hs.next hs.wf hs1.next hf2
 cases ex with
 | normal => obtain ⟨k, hk, hI2⟩ := hq; exact ⟨k, hk, t2, s2, hI2, hs2, ht2, hf⟩
 | exit id => exact ⟨t2, s2, hq, hs2, ht2, hf⟩
 | ret => exact ⟨t2, s2, hq, hs2, ht2, hf⟩
theorem vcode_region {Q : Ex → VTm → VSt → Prop} {id : Nat} {ops : Array Oper} (h : VOps P ops 0 ops.toList t s (Q .normal)) : VCode P (.region id ops false) t s Q := fun H T hs ht => codeT_region (h hs ht)
theorem vops_nil {ops : Array Oper} {k : Nat} {Q : VTm → VSt → Prop} (h : Q t s) : VOps P ops k [] t s Q := fun H T hs ht => opsT_nil ⟨t, s, h, hs, ht, .refl _ _⟩
end Go.AE
