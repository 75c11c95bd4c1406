/- KRescueDuesW: RescueDues: the contract, read as the row asks it. -/
import Derived.Test.YtcjmpdpgfmjcgaaGreatDoorRows
import Derived.Test.YtcjmpdpgfmjcgaaGreatDoorKG26
import Derived.Test.YtcjmpdpgfmjcgaaGreatDoorKG24
namespace Go.Proofs.YtcjmpdpgfmjcgaaGreatDoor.rescueDues
open Go.ChangeShapes Go.WideShapes Go.ChangeAt Go.RowKit Go.Dw Go.Dx
set_option maxRecDepth 100000
theorem kids : Kids Tryz.prog (· < Tryz.prog.types.size) := kids_rows (by kernel_rfl) (by kernel_rfl)
theorem full : ∀ t e, t < Tryz.prog.types.size -> Tryz.prog.underlying t = some (.slice e) -> 0 < Tryz.prog.cellsOf e := slices_full_of Tryz.prog (by kernel_rfl)
theorem params_in : ∀ t ∈ Tryz.f7.params.toList, t < Tryz.prog.types.size := by
 rw [Tryz.params7]
 have : Tryz.prog.types.size = Tryz.prog.types.size := rfl
 intro t ht
 simp only [List.mem_cons, List.not_mem_nil, or_false] at ht
 first | (rcases ht with rfl | rfl | rfl <;> exact Nat.le_of_ble_eq_true (by kernel_rfl))
theorem contract (H : Type) (enc : TypeId × Value -> H) (W : World) (base : Nat) (args : Array Value) (ds gs : List (DataW H)) (before : List MemPlace)
  (hval0 : ∀ (j : Nat) t v, Tryz.f7.params[j]? = some t -> args[j]? = some v -> Value.okWide Tryz.prog W .any base t v)
  (hW : DataW.Whole enc Tryz.prog Tryz.f7.params.toList Rows.rescueDuesSpec.vars false W args.toList ds gs before) :
  Calls Tryz.prog 7 args W fun e W' => ∃ v, e = .returned v /\ Rows.rescueDuesSpec.post enc Tryz.prog Tryz.f7 false true false false W args v W' := by
 have hW' := hW
 obtain ⟨p, q, hA0, hV, rfl, hfz, hnd⟩ := hW
 have hA : DataW.TrodAll enc Tryz.prog W 0 (fun _ => true) true Tryz.f7.params.toList args.toList ds p := hA0
 have hval := hval0
 rw [Tryz.params7] at hA hval
 obtain ⟨rfl, rfl⟩ := trodVars_none hV
 obtain ⟨v0, v1, v2, d0, d1, d2, p0, p1, p2, rfl, rfl, rfl, ⟨n0, h0⟩, ⟨n1, h1⟩, ⟨n2, h2⟩⟩ := trodAll_three hA
 obtain ⟨cs, rfl⟩ : ∃ cs, v0 = .agg cs := by
  have := hval 0 54 v0 rfl rfl
  simp only [Value.okWide, Tryz.underlying54] at this
  obtain ⟨cs, h, _⟩ := this
  exact ⟨cs, h⟩
 obtain ⟨m1, rfl⟩ := okWide_int Tryz.underlying3 (hval 1 3 _ rfl rfl)
 obtain ⟨m2, rfl⟩ := okWide_int Tryz.underlying3 (hval 2 3 _ rfl rfl)
 obtain ⟨t, hok, hT, hF⟩ := rd_dtask ⟨n0, _, h0⟩
 obtain ⟨w1, e1, l1⟩ := rd_int Tryz.underlying3 ⟨n1, _, h1⟩
 obtain ⟨w2, e2, l2⟩ := rd_int Tryz.underlying3 ⟨n2, _, h2⟩
 have e1' : m1 = w1 := by simpa [Value.cells] using e1
 have e2' : m2 = w2 := by simpa [Value.cells] using e2
 subst e1'; subst e2'
 have hv := rescueDues_sv hT hF l1 l2
 refine (calls_of_sv hv (.cons (.agg (okv_vrl hok)) (.cons (.int _ _) (.cons (.int _ _) .nil)))).mono ?_
 rintro e W' ⟨rfl, hu⟩
 exact ⟨_, rfl, post_bool kids full params_in hW' rfl rfl rfl rfl (by kernel_rfl) Tryz.underlying4 hu⟩
end Go.Proofs.YtcjmpdpgfmjcgaaGreatDoor.rescueDues
