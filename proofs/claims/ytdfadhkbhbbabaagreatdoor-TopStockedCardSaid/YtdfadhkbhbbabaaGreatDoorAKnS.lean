/- KnS: a world in which the listed variables hold what the program's text lays: the witness; what a row's condition says of them. -/
import Derived.Test.YtdfadhkbhbbabaaGreatDoorRows
import Derived.WalkKit
import Derived.ProofKit
import Derived.OpenShut
import Derived.Deep.DeepHandedRow
import Derived.Lib.LaidTab
import Derived.Lib.LaidIn
import Derived.Stop.LaidErr
import Derived.Test.YtdfadhkbhbbabaaGreatDoorAG7
import Derived.Test.YtdfadhkbhbbabaaGreatDoorAG10
set_option linter.unusedVariables false
set_option linter.unusedSimpArgs false
namespace Go.Proofs.YtdfadhkbhbbabaaGreatDoor
open Go.ChangeShapes Go.WideShapes Go.ChangeAt Go.RowKit
def putCells (cs:Array Value):Obj->Obj
 | .cells _ t frozen=>.cells cs t frozen
 | o=>o
def firstCells:Array Value:=(Go.Pinned.utf8FirstZ.map fun z=>Value.int .u8 (Int.ofNat z)).toArray
def ZOR:Array Value:=#[.int .u8 128,.int .u8 191,.int .u8 160,.int .u8 191,.int .u8 128,.int .u8 159,.int .u8 144,.int .u8 191,.int .u8 128,.int .u8 143,.int .u8 0,.int .u8 0,.int .u8 0,.int .u8 0,.int .u8 0,.int .u8 0,.int .u8 0,.int .u8 0,.int .u8 0,.int .u8 0,.int .u8 0,.int .u8 0,.int .u8 0,.int .u8 0,.int .u8 0,.int .u8 0,.int .u8 0,.int .u8 0,.int .u8 0,.int .u8 0,.int .u8 0,.int .u8 0]
def ZSN:Array Value:=#[.int .u64 1,.int .u64 10,.int .u64 100,.int .u64 1000,.int .u64 10000,.int .u64 100000,.int .u64 1000000,.int .u64 10000000,.int .u64 100000000,.int .u64 1000000000,.int .u64 10000000000,.int .u64 100000000000,.int .u64 1000000000000,.int .u64 10000000000000,.int .u64 100000000000000,.int .u64 1000000000000000,.int .u64 10000000000000000,.int .u64 100000000000000000,.int .u64 1000000000000000000,.int .u64 10000000000000000000]
def ZSa:Array Value:=#[.int .u8 0,.int .u8 1,.int .u8 28,.int .u8 2,.int .u8 29,.int .u8 14,.int .u8 24,.int .u8 3,.int .u8 30,.int .u8 22,.int .u8 20,.int .u8 15,.int .u8 25,.int .u8 17,.int .u8 4,.int .u8 8,.int .u8 31,.int .u8 27,.int .u8 13,.int .u8 23,.int .u8 21,.int .u8 19,.int .u8 16,.int .u8 7,.int .u8 26,.int .u8 12,.int .u8 18,.int .u8 6,.int .u8 11,.int .u8 5,.int .u8 10,.int .u8 9]
def ZSt:Array Value:=#[.int .u8 0,.int .u8 1,.int .u8 56,.int .u8 2,.int .u8 57,.int .u8 49,.int .u8 28,.int .u8 3,.int .u8 61,.int .u8 58,.int .u8 42,.int .u8 50,.int .u8 38,.int .u8 29,.int .u8 17,.int .u8 4,.int .u8 62,.int .u8 47,.int .u8 59,.int .u8 36,.int .u8 45,.int .u8 43,.int .u8 51,.int .u8 22,.int .u8 53,.int .u8 39,.int .u8 33,.int .u8 30,.int .u8 24,.int .u8 18,.int .u8 12,.int .u8 5,.int .u8 63,.int .u8 55,.int .u8 48,.int .u8 27,.int .u8 60,.int .u8 41,.int .u8 37,.int .u8 16,.int .u8 46,.int .u8 35,.int .u8 44,.int .u8 21,.int .u8 52,.int .u8 32,.int .u8 23,.int .u8 11,.int .u8 54,.int .u8 26,.int .u8 40,.int .u8 15,.int .u8 34,.int .u8 20,.int .u8 31,.int .u8 10,.int .u8 25,.int .u8 14,.int .u8 19,.int .u8 9,.int .u8 13,.int .u8 8,.int .u8 7,.int .u8 6]
noncomputable def ZVN (os:Os):World:=World.holding Tryz.prog os ⟨#[],#[],[]⟩
noncomputable def ZFb (os:Os):World :=
 { ZVN os with heap:=((((((((((ZVN os).heap.modify 0 (putCells #[.iface 264 (.pointer (some ⟨14,0,none⟩))])).modify 1 (putCells #[.iface 264 (.pointer (some ⟨13,0,none⟩))])).modify 3 (putCells firstCells)).modify 4 (putCells ZOR)).modify 5 (putCells ZSN)).modify 6 (putCells ZSa)).modify 7 (putCells ZSt)).push (.cells #[.string ⟨⟨[118,97,108,117,101,32,111,117,116,32,111,102,32,114,97,110,103,101]⟩⟩] 266)).push (.cells #[.string ⟨⟨[105,110,118,97,108,105,100,32,115,121,110,116,97,120]⟩⟩] 266)) }
set_option maxRecDepth 100000
noncomputable def mW (os:Os):World:=((ZFb os).forCall (fun _ _=>0) ⟨#[],#[],[]⟩).memory
theorem in0 (os : Os) : LaidIn Tryz.prog (mW os) [("math/bits.deBruijn32tab", Rows.laid_math_bits_deBruijn32tab)] [6] := .of_run [6] 8 (by as_aux_lemma => kernel_rfl) (by as_aux_lemma => kernel_rfl) (by as_aux_lemma => kernel_rfl) (by as_aux_lemma => kernel_rfl)
theorem in1 (os : Os) : LaidIn Tryz.prog (mW os) [("math/bits.deBruijn64tab", Rows.laid_math_bits_deBruijn64tab)] [7] := .of_run [7] 8 (by as_aux_lemma => kernel_rfl) (by as_aux_lemma => kernel_rfl) (by as_aux_lemma => kernel_rfl) (by as_aux_lemma => kernel_rfl)
theorem in2 (os : Os) : LaidIn Tryz.prog (mW os) [("internal/strconv.uint64pow10", Rows.laid_internal_strconv_uint64pow10)] [5] := .of_run [5] 8 (by as_aux_lemma => kernel_rfl) (by as_aux_lemma => kernel_rfl) (by as_aux_lemma => kernel_rfl) (by as_aux_lemma => kernel_rfl)
theorem in3 (os : Os) : LaidIn Tryz.prog (mW os) [("unicode/utf8.acceptRanges", Rows.laid_unicode_utf8_acceptRanges)] [4] := .of_run [4] 8 (by as_aux_lemma => kernel_rfl) (by as_aux_lemma => kernel_rfl) (by as_aux_lemma => kernel_rfl) (by as_aux_lemma => kernel_rfl)
theorem in4 (os : Os) : LaidIn Tryz.prog (mW os) [("strconv.ErrRange", Rows.laid_strconv_ErrRange)] [1, 13] := .of_run [1, 13] 8 (by as_aux_lemma => kernel_rfl) (by as_aux_lemma => kernel_rfl) (by as_aux_lemma => kernel_rfl) (by as_aux_lemma => kernel_rfl)
theorem in5 (os : Os) : LaidIn Tryz.prog (mW os) [("strconv.ErrSyntax", Rows.laid_strconv_ErrSyntax)] [0, 14] := .of_run [0, 14] 8 (by as_aux_lemma => kernel_rfl) (by as_aux_lemma => kernel_rfl) (by as_aux_lemma => kernel_rfl) (by as_aux_lemma => kernel_rfl)
theorem in6 (os : Os) : LaidIn Tryz.prog (mW os) [("unicode/utf8.first", Rows.laid_unicode_utf8_first)] [3] := .of_run [3] 8 (by as_aux_lemma => kernel_rfl) (by as_aux_lemma => kernel_rfl) (by as_aux_lemma => kernel_rfl) (by as_aux_lemma => kernel_rfl)
theorem ZSY (os:Os):laidMet Tryz.prog Rows.topStockedRow.laid ((ZFb os).forCall (fun _ _=>0) ⟨#[],#[],[]⟩).memory :=
 ((((((((in0 os).append (in1 os) (by decide)).append (in2 os) (by decide)).append (in3 os) (by decide)).append (in4 os) (by decide)).append (in5 os) (by decide)).append (in6 os) (by decide)).met :)
theorem ZOW {W:World}(h:laidMetH Tryz.prog Rows.topStockedRow.laid W):laidMet Tryz.prog Rows.topStockedRow.laid W:=by
 have e:(Rows.topStockedRow.laid.filter fun x=>x.2.handleName?.isSome)=[]:=by kernel_rfl
 unfold laidMetH at h;rw[e] at h;exact h
theorem star : "*" ++ "errors.errorString" = "*errors.errorString" := by decide
theorem ZNm (u : TypeId) (h : Tryz.prog.typeName? 3 u = some "*errors.errorString") : u = 264 :=
 typeName_ptr_named (nm := "errors.errorString") (by rw [star]; kernel_rfl) (by kernel_rfl) (by decide) u (by rw [star]; exact h)
theorem ZUr {W:World}(h:laidMetH Tryz.prog Rows.topStockedRow.laid W):Go.Dw.WkLib (Go.Dw.ro W):=by
 have h2:=laidMet.tail (laidMet.tail (ZOW h));have h4:=laidMet.tail (laidMet.tail h2);have h5:=laidMet.tail h4;refine Go.Dw.WkLib.of ⟨?_,?_,?_⟩
 ·exact Lib.tabIs_of_head (zs:=Lib.pow10Tab) (g:=5) (t:=285) (e:=180) (n:=20) (by kernel_rfl) (by kernel_rfl) Tryz.underlying285 Tryz.underlying180 (by kernel_rfl) (by kernel_rfl) h2
 ·obtain⟨a,s,hv,-⟩:=laid_sentinel (g:=0) (ti:=137) (tp:=264) (te:=266) (ts:=9) h5 (by kernel_rfl) (by kernel_rfl) Tryz.underlying137 ZNm Tryz.underlying264 Tryz.underlying266 rfl rfl Tryz.underlying9 (by kernel_rfl) (by kernel_rfl)
  exact⟨_,_,hv⟩
 ·obtain⟨a,s,hv,-⟩:=laid_sentinel (g:=1) (ti:=137) (tp:=264) (te:=266) (ts:=9) h4 (by kernel_rfl) (by kernel_rfl) Tryz.underlying137 ZNm Tryz.underlying264 Tryz.underlying266 rfl rfl Tryz.underlying9 (by kernel_rfl) (by kernel_rfl)
  exact⟨_,_,hv⟩
end Go.Proofs.YtdfadhkbhbbabaaGreatDoor
