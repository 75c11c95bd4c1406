/- KRescueInTimeW: RescueInTime: the contract, read as the row asks it. -/
import Derived.Test.YtcjmpdpgfmjcgaaGreatDoorRows
import Derived.Test.YtcjmpdpgfmjcgaaGreatDoorLG27
import Derived.Test.YtcjmpdpgfmjcgaaGreatDoorLG24
namespace Go.Proofs.YtcjmpdpgfmjcgaaGreatDoor.rescueInTime
open Go.ChangeShapes Go.WideShapes Go.ChangeAt Go.RowKit Go.Dw Go.Dx
set_option maxRecDepth 100000
theorem kids : Kids Tryz.prog (· < Tryz.prog.types.size) := kids_rows (by kernel_rfl) (by kernel_rfl)
theorem full : ∀ t e, t < Tryz.prog.types.size -> Tryz.prog.underlying t = some (.slice e) -> 0 < Tryz.prog.cellsOf e := slices_full_of Tryz.prog (by kernel_rfl)
theorem params_in : ∀ t ∈ Tryz.f17.params.toList, t < Tryz.prog.types.size := by
 rw [Tryz.params17]
 have : Tryz.prog.types.size = Tryz.prog.types.size := rfl
 intro t ht
 simp only [List.mem_cons, List.not_mem_nil, or_false] at ht
 first | (rcases ht with rfl | rfl | rfl <;> exact Nat.le_of_ble_eq_true (by kernel_rfl))
theorem contract (H : Type) (enc : TypeId × Value -> H) (W : World) (base : Nat) (args : Array Value) (ds gs : List (DataW H)) (before : List MemPlace)
  (hval0 : ∀ (j : Nat) t v, Tryz.f17.params[j]? = some t -> args[j]? = some v -> Value.okWide Tryz.prog W .any base t v)
  (hW : DataW.Whole enc Tryz.prog Tryz.f17.params.toList Rows.rescueInTimeSpec.vars false W args.toList ds gs before) :
  Calls Tryz.prog 17 args W fun e W' => ∃ v, e = .returned v /\ Rows.rescueInTimeSpec.post enc Tryz.prog Tryz.f17 false true false false W args v W' := by
 have hW' := hW
 obtain ⟨p, q, hA0, hV, rfl, hfz, hnd⟩ := hW
 have hA : DataW.TrodAll enc Tryz.prog W 0 (fun _ => true) true Tryz.f17.params.toList args.toList ds p := hA0
 have hval := hval0
 rw [Tryz.params17] at hA hval
 obtain ⟨rfl, rfl⟩ := trodVars_none hV
 obtain ⟨v0, v1, v2, d0, d1, d2, p0, p1, p2, rfl, rfl, rfl, ⟨n0, h0⟩, ⟨n1, h1⟩, ⟨n2, h2⟩⟩ := trodAll_three hA
 obtain ⟨cs, rfl⟩ : ∃ cs, v0 = .agg cs := by
  have := hval 0 54 v0 rfl rfl
  simp only [Value.okWide, Tryz.underlying54] at this
  obtain ⟨cs, h, _⟩ := this
  exact ⟨cs, h⟩
 obtain ⟨b1, len1, cap1, rfl⟩ := okWide_slice Tryz.underlying31 (hval 1 31 _ rfl rfl)
 obtain ⟨cs2, rfl⟩ : ∃ cs, v2 = .agg cs := by
  have := hval 2 82 v2 rfl rfl
  simp only [Value.okWide, Tryz.underlying82] at this
  obtain ⟨cs, h, _⟩ := this
  exact ⟨cs, h⟩
 obtain ⟨t, hok, hT, hF⟩ := rd_dtask ⟨n0, _, h0⟩
 obtain ⟨w1, a1, l1, c1, e1, ok1, nz1, hL1, hl1, hF1⟩ := rd_ints (P := Tryz.prog) Tryz.underlying31 Tryz.underlying3 (by kernel_rfl) ⟨n1, _, h1⟩
 have e1' : Value.slice b1 len1 cap1 = w1 := by simpa [Value.cells] using e1
 subst e1'
 obtain ⟨y0, y1, e2, k0, k1⟩ := rd_pair (P := Tryz.prog) Tryz.underlying82 Tryz.underlying3 (by kernel_rfl) (by kernel_rfl) ⟨n2, _, h2⟩
 obtain ⟨l2⟩ := cs2
 have e2' : l2 = [i64 y0, i64 y1] := e2
 subst e2'
 have hv := rescueInTime_sv (cc := c1) hT hF hL1 hl1 k0 k1
 rw [<- nz1] at hv
 refine (calls_of_sv hv (.cons (.agg (okv_vrl hok)) (.cons (okv_vr ok1) (.cons (.agg (.cons (.int _ _) (.cons (.int _ _) .nil))) .nil)))).mono ?_
 rintro e W' ⟨rfl, hu⟩
 exact ⟨_, rfl, post_bool kids full params_in hW' rfl rfl rfl rfl (by kernel_rfl) Tryz.underlying4 hu⟩
end Go.Proofs.YtcjmpdpgfmjcgaaGreatDoor.rescueInTime
