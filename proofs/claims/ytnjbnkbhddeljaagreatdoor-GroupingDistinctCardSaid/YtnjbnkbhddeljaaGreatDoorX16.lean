/- A part of the proof: GdY. -/
import Derived.Test.YtnjbnkbhddeljaaGreatDoorX11
import Derived.Test.YtnjbnkbhddeljaaGreatDoorX12
import Derived.Test.YtnjbnkbhddeljaaGreatDoorX13
import Derived.Test.YtnjbnkbhddeljaaGreatDoorX14
import Derived.Test.YtnjbnkbhddeljaaGreatDoorX15
import Derived.Test.YtnjbnkbhddeljaaGreatDoorRows
import Derived.ProofKit
import Derived.Lay
set_option linter.unusedVariables false
set_option maxRecDepth 100000
namespace Go.Proofs.YtnjbnkbhddeljaaGreatDoor
open Go Go.AE Go.ChangeShapes Go.WideShapes Go.ChangeAt Go.RowKit
theorem isTrue_some {x : Option (Value × St)} (h : isTrue x = true) : ∃ H', x = some (.bool true, H') := by
 unfold isTrue at h
 split at h
 ·rename_i b H'
  subst h
  exact ⟨H', rfl⟩
 ·cases h
theorem closed_pure {P : Program} (hm : P.follows .mixedOrders = true) {n : Nat} {f : FuncId} (h : isTrue ((ev P n).call f [] St.empty) = true) : zB1 P f [] (zCG true) := fun s H vs hs hvs => by
 cases hvs
 obtain ⟨H', h⟩ := isTrue_some h;refine (callT_closed hm h rfl H).mono fun u H2 ⟨e1, e2⟩ => ?_
 subst e1; subst e2
 exact ⟨zCG true, s, ⟨rfl, s.next, Nat.le_refl _, rfl⟩, hs, .sc rfl, .refl _ _⟩
theorem lives_pure : zB1 Tryz.prog 6 [] (zCG true) := closed_pure hmix livesRun
theorem law_all (l : List GBatch) (types : List Int) (mem : Int) (hl : l.length ≤ 140737488355328) (ht : types.length ≤ 140737488355328) (hb : ∀ b ∈ l, BSz b) : zB1 Tryz.prog 3 [zBO l, zB8 types, zAX mem] (zCG true) :=
 law_pure l types mem lives_pure hl ht (fun hs b hbl => ⟨by have := (small_one hs b hbl).2.2; omega, by have := (hb b hbl).2; have := reachBytes_lt; omega, fun v hv => by have : v.nulls.length ≤ reachBytes := (hb b hbl).1 v hv; have := reachBytes_lt; omega⟩)
  (fun hs hi => distIn hs hi) (fun hs hi hm => distOut hs hi hm)
theorem tys : BatchTys Tryz.prog 41 39 73 3 69 70 71 4 23 2 9 4 := ⟨by kernel_rfl, by kernel_rfl, by kernel_rfl, by kernel_rfl, by kernel_rfl, by kernel_rfl, by kernel_rfl, by kernel_rfl, by kernel_rfl⟩
theorem lifted (os : Os) (started : os.Started) (H : Type) (enc : TypeId × Value → H) :
    ReturnsInHanded {} Tryz.checked os 3 .any (fun w args => (Rows.groupingDistinctSpec.pre enc Tryz.prog Tryz.f3 [] false w args ∧ laidMetH Tryz.prog Rows.groupingDistinctRow.laid w) ∧ sizedMet enc Tryz.prog Tryz.f3 (OpenSpec.ofChange Rows.groupingDistinctSpec) false w args)
     (Rows.groupingDistinctSpec.post enc Tryz.prog Tryz.f3 false true false false) := by
 refine returnsInHanded_of_change_and (C := Tryz.checked) (X := fun w _ => laidMetH Tryz.prog Rows.groupingDistinctRow.laid w) (fun _ _ _ hh h => h.of_heap hh) own started (by kernel_rfl) Tryz.func3
  (ChangeSpec.witness_shaped (enc := enc) (C := Tryz.checked) (os := os) (X := fun w _ => laidMetH Tryz.prog Rows.groupingDistinctRow.laid w) false (World.laidAll Tryz.prog os Rows.groupingDistinctRow.laid) #[.slice none 0 0, .slice none 0 0, .int .i64 0] 8 (World.laidAll_os _ _ _)
   (startShaped os) (by kernel_rfl) (by kernel_rfl) (by kernel_rfl) (startMet os)) ?_
 intro W base args ds gs before hval0 hW _ hwt0 _ _
 have hval : ∀ (j : Nat) t v, Tryz.f3.params[j]? = some t → args[j]? = some v → Value.okWide Tryz.prog W .any base t v := hval0
 have hW' := hW
 have hlt := hW.lt
 have hwt : (DataW.weightsEach Tryz.prog (Tryz.f3.params.toList ++ Rows.groupingDistinctSpec.plain.varTypes Tryz.prog) (ds ++ gs)).all (· ≤ reachBytes) = true := hwt0
 obtain ⟨p, q, hA0, hV, rfl, _, _⟩ := hW
 have hA : DataW.TrodAll enc Tryz.prog W 0 (fun _ => true) true Tryz.f3.params.toList args.toList ds p := hA0
 rw [Tryz.params3] at hA hval hwt
 obtain ⟨v0, v1, v2, d0, d1, d2, p0, p1, p2, rfl, rfl, rfl, h0, h1, h2⟩ := trodAll_three hA
 obtain ⟨rfl, rfl⟩ := trodVars_none hV
 have wk : ∀ (j : Nat) (t : TypeId) (d : DataW H), [22, 23, 3][j]? = some t → [d0, d1, d2][j]? = some d → WOk Tryz.prog t d := fun j t d e1 e2 m hm => by
  have e3 : ([22, 23, 3] ++ Rows.groupingDistinctSpec.plain.varTypes Tryz.prog)[j]? = some t := by
   rw [List.getElem?_append_left (List.getElem?_eq_some_iff.1 e1).1]; exact e1
  have e4 : ([d0, d1, d2] ++ ([] : List (DataW H)))[j]? = some d := by rw [List.append_nil]; exact e2
  have := List.all_eq_true.1 hwt m (DataW.weights_mem_each e3 e4 m hm)
  simpa using this
 have k0 := h0
 have k1 := h1
 have k2 := h2
 obtain ⟨a0, n0, c0, rfl⟩ := okWide_slice (slStructOk_spec (show slStructOk Tryz.prog 22 41 = true by kernel_rfl)).1 (hval 0 22 v0 rfl rfl)
 obtain ⟨a1, n1, c1, rfl⟩ := okWide_slice (slCellOk_spec tys.sel).1 (hval 1 23 v1 rfl rfl)
 obtain ⟨f0, g0⟩ := h0
 obtain ⟨f1, g1⟩ := h1
 obtain ⟨x2, rfl, hd2, hp2, w2⟩ := open_int Tryz.underlying3 (hval 2 3 v2 rfl rfl) h2
 obtain ⟨l, r0, hb, hl⟩ := open_batches tys (t := 22) (by kernel_rfl) g0 (wk 0 22 d0 rfl rfl)
 obtain ⟨ts, r1, ht⟩ := open_ints tys.sel g1 (wk 1 23 d1 rfl rfl)
 have hr : reachBytes ≤ 140737488355328 := by have := reachBytes_lt; omega
 have hrd : Rd W [.slice a0 n0 c0, .slice a1 n1 c1, .int .i64 x2] [zBO l, zB8 ts, zAX x2] := zD5 (cs := [_]) (ps := [_]) r0 (zD5 (cs := [_]) (ps := [_]) r1 (rd_sc rfl))
 refine (call_on (law_all l ts x2 (Nat.le_trans hl hr) (Nat.le_trans ht hr) hb) hrd (args' := #[.slice a0 n0 c0, .slice a1 n1 c1, .int .i64 x2]) rfl rfl).mono fun e W' ⟨he, hbel⟩ => ?_
 subst he
 refine ⟨_, rfl, _, _, _, [], p0 ++ (p1 ++ p2), [], hW', trodAll_mk1 (shut_bool Tryz.underlying4 _), ?_, rfl, hbel.frame _, fun h => by cases h⟩;exact trodAll_mk3 (Below.trod laidOut (by kernel_rfl) (of_decide_eq_true (by kernel_rfl)) k0 hbel fun x hx => hlt x (by simp [hx])) (Below.trod laidOut (by kernel_rfl) (of_decide_eq_true (by kernel_rfl)) k1 hbel fun x hx => hlt x (by simp [hx]))
  (Below.trod laidOut (by kernel_rfl) (of_decide_eq_true (by kernel_rfl)) k2 hbel fun x hx => hlt x (by simp [hx]))
end Go.Proofs.YtnjbnkbhddeljaaGreatDoor
