/- KRescueFurtherW: RescueFurther: the contract, read as the row asks it. -/
import Derived.Test.YtcjmpdpgfmjcgaaGreatDoorRows
import Derived.Test.YtcjmpdpgfmjcgaaGreatDoorIG22
import Derived.Test.YtcjmpdpgfmjcgaaGreatDoorIG15
namespace Go.Proofs.YtcjmpdpgfmjcgaaGreatDoor.rescueFurther
open Go.ChangeShapes Go.WideShapes Go.ChangeAt Go.RowKit Go.Dw Go.Dx
set_option maxRecDepth 100000
theorem kids : Kids Tryz.prog (· < Tryz.prog.types.size) := kids_rows (by kernel_rfl) (by kernel_rfl)
theorem full : ∀ t e, t < Tryz.prog.types.size -> Tryz.prog.underlying t = some (.slice e) -> 0 < Tryz.prog.cellsOf e := slices_full_of Tryz.prog (by kernel_rfl)
theorem params_in : ∀ t ∈ Tryz.f16.params.toList, t < Tryz.prog.types.size := by
 rw [Tryz.params16]
 have : Tryz.prog.types.size = Tryz.prog.types.size := rfl
 intro t ht
 simp only [List.mem_cons, List.not_mem_nil, or_false] at ht
 first | (rcases ht with rfl | rfl <;> exact Nat.le_of_ble_eq_true (by kernel_rfl))
theorem contract (H : Type) (enc : TypeId × Value -> H) (W : World) (base : Nat) (args : Array Value) (ds gs : List (DataW H)) (before : List MemPlace)
  (hval0 : ∀ (j : Nat) t v, Tryz.f16.params[j]? = some t -> args[j]? = some v -> Value.okWide Tryz.prog W .any base t v)
  (hW : DataW.Whole enc Tryz.prog Tryz.f16.params.toList Rows.rescueFurtherSpec.vars false W args.toList ds gs before) :
  Calls Tryz.prog 16 args W fun e W' => ∃ v, e = .returned v /\ Rows.rescueFurtherSpec.post enc Tryz.prog Tryz.f16 false true false false W args v W' := by
 have hW' := hW
 obtain ⟨p, q, hA0, hV, rfl, hfz, hnd⟩ := hW
 have hA : DataW.TrodAll enc Tryz.prog W 0 (fun _ => true) true Tryz.f16.params.toList args.toList ds p := hA0
 have hval := hval0
 rw [Tryz.params16] at hA hval
 obtain ⟨rfl, rfl⟩ := trodVars_none hV
 obtain ⟨v0, v1, d0, d1, p0, p1, rfl, rfl, rfl, ⟨n0, h0⟩, ⟨n1, h1⟩⟩ := trodAll_two hA
 obtain ⟨cs, rfl⟩ : ∃ cs, v0 = .agg cs := by
  have := hval 0 25 v0 rfl rfl
  simp only [Value.okWide, Tryz.underlying25] at this
  obtain ⟨cs, h, _⟩ := this
  exact ⟨cs, h⟩
 obtain ⟨cs1, rfl⟩ : ∃ cs, v1 = .agg cs := by
  have := hval 1 63 v1 rfl rfl
  simp only [Value.okWide, Tryz.underlying63] at this
  obtain ⟨cs, h, _⟩ := this
  exact ⟨cs, h⟩
 obtain ⟨t, hok, hT, hF⟩ := rd_taskP ⟨n0, _, h0⟩
 obtain ⟨x, hok1, hX, hXF⟩ := rd_reel ⟨n1, _, h1⟩
 have hv := rescueFurther_sv hT hF hX hXF
 refine (calls_of_sv hv (.cons (.agg (okv_vrl hok)) (.cons (.agg (okv_vrl hok1)) .nil))).mono ?_
 rintro e W' ⟨rfl, hu⟩
 exact ⟨_, rfl, post_bool kids full params_in hW' rfl rfl rfl rfl (by kernel_rfl) Tryz.underlying4 hu⟩
end Go.Proofs.YtcjmpdpgfmjcgaaGreatDoor.rescueFurther
