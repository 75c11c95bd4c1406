/- X4: strings.TrimSpace at every string: the library's contract, where its tables lie as the program's text lays them. -/
import Derived.Shelf.Strings.TrimSpaceAny
import Derived.Shelf.Strconv.Itoa3
import Derived.Test.YtfgeelpahicelaaGreatDoorXG4
import Derived.Test.YtfgeelpahicelaaGreatDoorXG2
import Derived.Test.YtfgeelpahicelaaGreatDoorXG13
set_option linter.unusedVariables false
set_option linter.unusedSimpArgs false
namespace Go.Dw
open Go Go.Dx Go.Proofs
set_option maxRecDepth 100000
structure LibW (w:World):Prop where
 sp : Lib.TabIs Tryz.prog w "strings.asciiSpace" .u8 Lib.asciiSpaceTab
 u8:Lib.Utf8Tabs (ZCo.g 3) (ZCo.g 4) w
 ws:Lib.WhiteTab (ZCo.g 6) w
def ZLi (h:Heap):Prop:=∃W0:World,LibW W0/\Ext (ro W0) h
theorem ZLi.ext {h h':Heap}(a:ZLi h)(he:Ext h h'):ZLi h':=by
 obtain⟨W0,h1,h2⟩:=a;exact⟨W0,h1,h2.trans he⟩
theorem ZLi.of {W:World}(a:LibW W):ZLi (ro W):=⟨W,a,Ext.refl _⟩
theorem ZO0 {W0:World}{h:Heap} {ι:Iota}{w:World}(he:Ext (ro W0) h)(hr:HR ι h w.heap):∀b,b<W0.heap.size->w.heap[b]?=W0.heap[b]?:=by
 intro b hb;have hg:(ro W0).get b=some (.ro W0.heap.size (W0.heap[b]'hb)):=by rw[roH_get,Array.getElem?_eq_getElem hb];rfl
 obtain⟨bi,o',i1,hw,ho⟩:=hr.obj b _ (he.get hg);simp only[OR] at ho;obtain⟨bi',e1,e2⟩:=ho.2 b hb;rw[i1] at e1;cases e1;rw[<-e2,hw,ho.1,e2,Array.getElem?_eq_getElem hb]
theorem ZNR {w w' : World} (h : Lib.TabIs Tryz.prog w "strings.asciiSpace" .u8 Lib.asciiSpaceTab) (hs : w'.heap[0]? = w.heap[0]?) : Lib.TabIs Tryz.prog w' "strings.asciiSpace" .u8 Lib.asciiSpaceTab := by
 unfold Lib.TabIs World.var? at h ⊢;rw[extraTrim.gNamed] at h ⊢
 change (match w.heap[0]? with|some (.cells cs _ _)=>some cs|_=>none)=_ at h
 show (match w'.heap[0]? with|some (.cells cs _ _)=>some cs|_=>none)=_
 rw[hs];exact h
theorem ZLi.w {h:Heap} {ι:Iota}{w:World}(a:ZLi h)(hr:HR ι h w.heap):LibW w:=by
 obtain⟨W0,⟨h1,h2,h3⟩,he⟩:=a;have hs:=ZO0 he hr;have hsz:W0.heap.size<=w.heap.size:=by
  rcases Nat.lt_or_ge w.heap.size W0.heap.size with g|g
  ·have:=hs _ g
   rw[Array.getElem?_eq_none (Nat.le_refl _),Array.getElem?_eq_getElem g] at this;cases this
  ·exact g
 have hb:RowKit.Below W0.heap.size W0 { W0 with heap:=w.heap }:=⟨rfl,rfl,rfl,hsz,hs⟩
 have h0:0<W0.heap.size:=by
  unfold Lib.TabIs World.var? at h1;rw[extraTrim.gNamed] at h1
  change (match W0.heap[0]? with|some (.cells cs _ _)=>some cs|_=>none)=_ at h1
  split at h1
  ·rename_i hq
   exact (Array.getElem?_eq_some_iff.1 hq).1
  ·cases h1
 have hc:∀a,w.cell? a=({ W0 with heap:=w.heap }:World).cell? a:=fun a=>rfl
 have u2:=Utf8Tabs_below h2 hb;have u3:=WhiteTab_below h3 hb;refine⟨ZNR h1 (hs 0 h0),?_,?_⟩
 ·unfold Lib.Utf8Tabs at u2 ⊢
  simp only[hc];exact u2
 ·unfold Lib.WhiteTab at u3 ⊢
  simp only[hc];exact u3
def ZLR:Go.Shelf.Ren:=⟨fun|129=>224|171=>95|243=>153|246=>186|283=>210|284=>211|285=>212|286=>213|317=>250|318=>251|319=>252|320=>253|337=>276|338=>277|n=>n,fun|0=>0|2=>2|3=>3|4=>4|5=>5|9=>9|20=>20|37=>101|46=>252|51=>284|53=>271|171=>270|173=>274|212=>304|213=>305|232=>346|233=>347|n=>n,fun|17=>2|18=>8|19=>9|n=>n⟩
theorem ZRZ:Go.Proofs.LaysM.n171 Tryz.prog ZLR:={
 mixed:=by kernel_rfl
 f129:=Tryz.func224.trans (congrArg some (by kernel_rfl))
 f171:=Tryz.func95.trans (congrArg some (by kernel_rfl))
 f243:=Tryz.func153.trans (congrArg some (by kernel_rfl))
 f246:=Tryz.func186.trans (congrArg some (by kernel_rfl))
 f283:=Tryz.func210.trans (congrArg some (by kernel_rfl))
 f284:=Tryz.func211.trans (congrArg some (by kernel_rfl))
 f285:=Tryz.func212.trans (congrArg some (by kernel_rfl))
 f286:=Tryz.func213.trans (congrArg some (by kernel_rfl))
 f317:=Tryz.func250.trans (congrArg some (by kernel_rfl))
 f318:=Tryz.func251.trans (congrArg some (by kernel_rfl))
 f319:=Tryz.func252.trans (congrArg some (by kernel_rfl))
 f320:=Tryz.func253.trans (congrArg some (by kernel_rfl))
 f337:=Tryz.func276.trans (congrArg some (by kernel_rfl))
 f338:=Tryz.func277.trans (congrArg some (by kernel_rfl))
 t0:=Tryz.underlying0
 a0:=Tryz.isAgg0
 z0:=Tryz.sizeOf0
 v0:=Tryz.zeroValue0
 t2:=Tryz.underlying2
 a2:=Tryz.isAgg2
 z2:=Tryz.sizeOf2
 v2:=Tryz.zeroValue2
 t3:=Tryz.underlying3
 a3:=Tryz.isAgg3
 z3:=Tryz.sizeOf3
 v3:=Tryz.zeroValue3
 t4:=Tryz.underlying4
 a4:=Tryz.isAgg4
 z4:=Tryz.sizeOf4
 v4:=Tryz.zeroValue4
 t5:=Tryz.underlying5
 a5:=Tryz.isAgg5
 z5:=Tryz.sizeOf5
 v5:=Tryz.zeroValue5
 t9:=Tryz.underlying9
 a9:=Tryz.isAgg9
 z9:=Tryz.sizeOf9
 v9:=Tryz.zeroValue9
 t20:=Tryz.underlying20
 a20:=Tryz.isAgg20
 z20:=Tryz.sizeOf20
 v20:=Tryz.zeroValue20
 t37:=Tryz.underlying101
 a37:=Tryz.isAgg101
 z37:=Tryz.sizeOf101
 v37:=Tryz.zeroValue101
 t46:=Tryz.underlying252
 a46:=Tryz.isAgg252
 z46:=Tryz.sizeOf252
 v46:=Tryz.zeroValue252
 t51:=Tryz.underlying284
 a51:=Tryz.isAgg284
 z51:=Tryz.sizeOf284
 v51:=Tryz.zeroValue284
 t53:=Tryz.underlying271
 a53:=Tryz.isAgg271
 z53:=Tryz.sizeOf271
 v53:=Tryz.zeroValue271
 t171:=Tryz.underlying270
 a171:=Tryz.isAgg270
 z171:=Tryz.sizeOf270
 v171:=Tryz.zeroValue270
 t173:=Tryz.underlying274
 a173:=Tryz.isAgg274
 z173:=Tryz.sizeOf274
 v173:=Tryz.zeroValue274
 t212:=Tryz.underlying304
 a212:=Tryz.isAgg304
 z212:=Tryz.sizeOf304
 v212:=Tryz.zeroValue304
 t213:=Tryz.underlying305
 a213:=Tryz.isAgg305
 z213:=Tryz.sizeOf305
 t232:=Tryz.underlying346
 a232:=Tryz.isAgg346
 z232:=Tryz.sizeOf346
 v232:=Tryz.zeroValue346
 t233:=Tryz.underlying347
 a233:=Tryz.isAgg347
 z233:=Tryz.sizeOf347
 v233:=Tryz.zeroValue347
 g17:=by kernel_rfl
 g18:=by kernel_rfl
 g19:=by kernel_rfl
 i0:=by kernel_rfl
 i2:=by kernel_rfl
 i3:=by kernel_rfl
 i4:=by kernel_rfl
 i5:=by kernel_rfl
 i9:=by kernel_rfl
 i20:=by kernel_rfl
 i37:=by kernel_rfl
 i46:=by kernel_rfl
 i51:=by kernel_rfl
 i53:=by kernel_rfl
 i171:=by kernel_rfl
 i173:=by kernel_rfl
 i212:=by kernel_rfl
 i232:=by kernel_rfl
 i233:=by kernel_rfl
 m17:=by kernel_rfl
 m18:=by kernel_rfl
 m19:=by kernel_rfl
}
def PowW (w : World) : Prop := Lib.TabIs Tryz.prog w "internal/strconv.uint64pow10" .u64 Lib.pow10Tab
def PowAt (h:Heap):Prop:=∃W0:World,PowW W0/\Ext (ro W0) h
theorem PowAt.ext {h h':Heap}(a:PowAt h)(he:Ext h h'):PowAt h':=by
 obtain⟨W0,h1,h2⟩:=a;exact⟨W0,h1,h2.trans he⟩
theorem PowAt.of {W:World}(a:PowW W):PowAt (ro W):=⟨W,a,Ext.refl _⟩
theorem PowAt.w {h:Heap} {ι:Iota}{w:World}(a:PowAt h)(hr:HR ι h w.heap):PowW w:=by
 obtain⟨W0,h1,he⟩:=a;have hs:=ZO0 he hr;unfold PowW Lib.TabIs World.var? at h1 ⊢;rw[ZRZ.m17] at h1 ⊢
 change (match W0.heap[2]? with|some (.cells cs _ _)=>some cs|_=>none)=_ at h1
 show (match w.heap[2]? with|some (.cells cs _ _)=>some cs|_=>none)=_
 have hlt:2<W0.heap.size:=by
  split at h1
  ·rename_i hq
   exact (Array.getElem?_eq_some_iff.1 hq).1
  ·cases h1
 rw[hs 2 hlt];exact h1
end Go.Dw
