/- KnF: as KnL3 to KnL5, for the rows that list the library's errors too: the witness; what a row's condition says. -/
import Derived.Stop.LaidErr
import Derived.Test.YtfgeelpahicelaaGreatDoorYKnL4
import Derived.Test.YtfgeelpahicelaaGreatDoorYKnL5
import Derived.Test.YtfgeelpahicelaaGreatDoorYG9
set_option linter.unusedVariables false
set_option linter.unusedSimpArgs false
namespace Go.Proofs.YtfgeelpahicelaaGreatDoor
open Go.ChangeShapes Go.WideShapes Go.ChangeAt Go.RowKit
noncomputable def ZBh (os:Os):World :=
 { ZEh os with heap:=(((((ZEh os).heap.modify 5 (ZBa #[.iface 337 (.pointer (some ⟨18,0,none⟩))])).modify 4 (ZBa #[.iface 337 (.pointer (some ⟨19,0,none⟩))])).push (.cells #[.string ⟨⟨[118,97,108,117,101,32,111,117,116,32,111,102,32,114,97,110,103,101]⟩⟩] 339)).push (.cells #[.string ⟨⟨[105,110,118,97,108,105,100,32,115,121,110,116,97,120]⟩⟩] 339)) }
set_option maxRecDepth 100000
noncomputable def mWF (os:Os):World:=((ZBh os).forCall (fun _ _=>0) ⟨#[],#[],[]⟩).memory
theorem inF0 (os : Os) : LaidIn Tryz.prog (mWF os) [("math/bits.deBruijn32tab", Rows.laid_math_bits_deBruijn32tab)] [8] := .of_run [8] 8 (by as_aux_lemma => kernel_rfl) (by as_aux_lemma => kernel_rfl) (by as_aux_lemma => kernel_rfl) (by as_aux_lemma => kernel_rfl)
theorem inF1 (os : Os) : LaidIn Tryz.prog (mWF os) [("math/bits.deBruijn64tab", Rows.laid_math_bits_deBruijn64tab)] [9] := .of_run [9] 8 (by as_aux_lemma => kernel_rfl) (by as_aux_lemma => kernel_rfl) (by as_aux_lemma => kernel_rfl) (by as_aux_lemma => kernel_rfl)
theorem inF2 (os : Os) : LaidIn Tryz.prog (mWF os) [("internal/strconv.uint64pow10", Rows.laid_internal_strconv_uint64pow10)] [2] := .of_run [2] 8 (by as_aux_lemma => kernel_rfl) (by as_aux_lemma => kernel_rfl) (by as_aux_lemma => kernel_rfl) (by as_aux_lemma => kernel_rfl)
theorem inF3 (os : Os) : LaidIn Tryz.prog (mWF os) [("unicode/utf8.acceptRanges", Rows.laid_unicode_utf8_acceptRanges)] [7] := .of_run [7] 8 (by as_aux_lemma => kernel_rfl) (by as_aux_lemma => kernel_rfl) (by as_aux_lemma => kernel_rfl) (by as_aux_lemma => kernel_rfl)
theorem inF4 (os : Os) : LaidIn Tryz.prog (mWF os) [("strconv.ErrRange", Rows.laid_strconv_ErrRange)] [5, 18] := .of_run [5, 18] 8 (by as_aux_lemma => kernel_rfl) (by as_aux_lemma => kernel_rfl) (by as_aux_lemma => kernel_rfl) (by as_aux_lemma => kernel_rfl)
theorem inF5 (os : Os) : LaidIn Tryz.prog (mWF os) [("strconv.ErrSyntax", Rows.laid_strconv_ErrSyntax)] [4, 19] := .of_run [4, 19] 8 (by as_aux_lemma => kernel_rfl) (by as_aux_lemma => kernel_rfl) (by as_aux_lemma => kernel_rfl) (by as_aux_lemma => kernel_rfl)
theorem inF6 (os : Os) : LaidIn Tryz.prog (mWF os) [("unicode.White_Space", Rows.laid_unicode_White_Space)] [1, 16, 17] := .of_run [1, 16, 17] 8 (by as_aux_lemma => kernel_rfl) (by as_aux_lemma => kernel_rfl) (by as_aux_lemma => kernel_rfl) (by as_aux_lemma => kernel_rfl)
theorem inF7 (os : Os) : LaidIn Tryz.prog (mWF os) [("strings.asciiSpace", Rows.laid_strings_asciiSpace)] [0] := .of_run [0] 8 (by as_aux_lemma => kernel_rfl) (by as_aux_lemma => kernel_rfl) (by as_aux_lemma => kernel_rfl) (by as_aux_lemma => kernel_rfl)
theorem inF8 (os : Os) : LaidIn Tryz.prog (mWF os) [("unicode/utf8.first", Rows.laid_unicode_utf8_first)] [6] := .of_run [6] 8 (by as_aux_lemma => kernel_rfl) (by as_aux_lemma => kernel_rfl) (by as_aux_lemma => kernel_rfl) (by as_aux_lemma => kernel_rfl)
theorem ZHR (os:Os):laidMet Tryz.prog Rows.screenFilesRow.laid ((ZBh os).forCall (fun _ _=>0) ⟨#[],#[],[]⟩).memory :=
 ((((((((((inF0 os).append (inF1 os) (by decide)).append (inF2 os) (by decide)).append (inF3 os) (by decide)).append (inF4 os) (by decide)).append (inF5 os) (by decide)).append (inF6 os) (by decide)).append (inF7 os) (by decide)).append (inF8 os) (by decide)).met :)
theorem ZIs {W:World}(h:laidMetH Tryz.prog Rows.screenFilesRow.laid W):laidMet Tryz.prog Rows.screenFilesRow.laid W:=by
 have e:(Rows.screenFilesRow.laid.filter fun x=>x.2.handleName?.isSome)=[]:=by kernel_rfl
 unfold laidMetH at h;rw[e] at h;exact h
theorem ZOv : ("unicode/utf8.acceptRanges", Lib.acceptData) ∈ Rows.screenFilesRow.laid := List.mem_of_getElem? (i := 3) (by kernel_rfl)
theorem ZOl : ("unicode.White_Space", Lib.whiteData) ∈ Rows.screenFilesRow.laid := List.mem_of_getElem? (i := 6) (by kernel_rfl)
theorem ZOj : ("unicode/utf8.first", Lib.firstData) ∈ Rows.screenFilesRow.laid := List.mem_of_getElem? (i := 8) (by kernel_rfl)
theorem ZMf {W : World} (h : laidMetH Tryz.prog Rows.screenFilesRow.laid W) : Lib.TabIs Tryz.prog W "strings.asciiSpace" .u8 Lib.asciiSpaceTab := by
 have h1:=ZAd (ZAd (ZAd (ZAd (ZAd (ZAd (ZAd (ZIs h)))))));exact Lib.tabIs_of_head (zs:=Lib.asciiSpaceTab) (g:=0) (t:=268) (e:=5) (n:=256) (by kernel_rfl) (by kernel_rfl) Tryz.underlying268 Tryz.underlying5 (by kernel_rfl) (by kernel_rfl) h1
theorem libF {W:World}(h:laidMetH Tryz.prog Rows.screenFilesRow.laid W):Go.Dw.LibAt (Go.Dw.ro W):=by
 have hp:=ZIs h
 exact Go.Dw.LibAt.of ⟨ZMf h,utf8Tabs_of_reads { Go.Dw.layTrim with } u8X (Lib.laidMet.reads hp ZOj) (Lib.laidMet.reads hp ZOv),whiteTab_of_reads { Go.Dw.layTrim with } wsX (Lib.laidMet.reads hp ZOl)⟩
theorem powF {W:World}(h:laidMetH Tryz.prog Rows.screenFilesRow.laid W):Go.Dw.PowAt (Go.Dw.ro W):=by
 have h1:=ZAd (ZAd (ZIs h));exact Go.Dw.PowAt.of (Lib.tabIs_of_head (zs:=Lib.pow10Tab) (g:=2) (t:=304) (e:=271) (n:=20) (by kernel_rfl) (by kernel_rfl) Tryz.underlying304 Tryz.underlying271 (by kernel_rfl) (by kernel_rfl) h1)
theorem tabF {W:World}(h:laidMetH Tryz.prog Rows.screenFilesRow.laid W):Go.Dw.TabAt Go.Dx.spTab (Go.Dw.ro W):=by
 have h2:=ZMf h;unfold Lib.TabIs World.var? at h2;rw[Go.Dw.extraTrim.gNamed] at h2
 change (match W.heap[0]? with|some (.cells cs _ _)=>some cs|_=>none)=_ at h2
 split at h2
 ·rename_i cs t fz hb
  have hs:0<W.heap.size:=(Array.getElem?_eq_some_iff.1 hb).1;refine⟨hs,W.heap.size,t,fz,?_⟩;rw[Go.Dx.roH_get,hb,Option.some.inj h2]
  rfl
 ·cases h2
theorem star : "*" ++ "errors.errorString" = "*errors.errorString" := by decide
theorem ZJN (u : TypeId) (h : Tryz.prog.typeName? 3 u = some "*errors.errorString") : u = 337 :=
 typeName_ptr_named (nm := "errors.errorString") (by rw [star]; kernel_rfl) (by kernel_rfl) (by decide) u (by rw [star]; exact h)
theorem errF {W:World}(h:laidMetH Tryz.prog Rows.screenFilesRow.laid W):Go.Dw.ErrAt (Go.Dw.ro W):=by
 have h4:=laidMet.tail (laidMet.tail (laidMet.tail (laidMet.tail (ZIs h))));have h5:=laidMet.tail h4;refine Go.Dw.ErrAt.of ⟨?_,?_⟩
 ·obtain⟨a,s,hv,-⟩:=laid_sentinel (g:=4) (ti:=165) (tp:=337) (te:=339) (ts:=9) h5 (by kernel_rfl) (by kernel_rfl) Tryz.underlying165 ZJN Tryz.underlying337 Tryz.underlying339 rfl rfl Tryz.underlying9 (by kernel_rfl) (by kernel_rfl)
  exact⟨_,_,hv⟩
 ·obtain⟨a,s,hv,-⟩:=laid_sentinel (g:=5) (ti:=165) (tp:=337) (te:=339) (ts:=9) h4 (by kernel_rfl) (by kernel_rfl) Tryz.underlying165 ZJN Tryz.underlying337 Tryz.underlying339 rfl rfl Tryz.underlying9 (by kernel_rfl) (by kernel_rfl)
  exact⟨_,_,hv⟩
end Go.Proofs.YtfgeelpahicelaaGreatDoor
