/- X3: the library's contract of strings.TrimSpace (strings of ASCII), laid at this program. -/
import Derived.Shelf.Strings.TrimSpace
import Derived.Shelf.Strings.TrimSpaceAny
import Derived.Test.YtfgeelpahicelaaGreatDoorYTy
import Derived.Test.YtfgeelpahicelaaGreatDoorYG1
import Derived.Test.YtfgeelpahicelaaGreatDoorYG2
set_option linter.unusedVariables false
set_option linter.unusedSimpArgs false
namespace Go.Dw
open Go Go.Dx Go.Proofs
set_option maxRecDepth 100000
def layTrim_ren:Go.Shelf.Ren:=⟨fun|120=>270|163=>182|197=>236|199=>207|237=>206|238=>208|260=>268|261=>248|271=>238|272=>247|273=>249|311=>274|312=>275|315=>209|n=>n,fun|0=>0|3=>3|4=>4|5=>5|9=>9|21=>21|37=>101|40=>246|46=>252|49=>324|51=>284|105=>293|119=>268|138=>341|139=>342|196=>323|141=>302|198=>326|193=>320|201=>329|194=>321|226=>344|227=>345|n=>n,fun|0=>0|3=>6|4=>7|6=>1|n=>n⟩
theorem layTrim:Go.Proofs.Lays.n163 Tryz.prog layTrim_ren:={
 mixed:=by kernel_rfl
 f120:=Tryz.func270.trans (congrArg some (by kernel_rfl))
 f163:=Tryz.func182.trans (congrArg some (by kernel_rfl))
 f197:=Tryz.func236.trans (congrArg some (by kernel_rfl))
 f199:=Tryz.func207.trans (congrArg some (by kernel_rfl))
 f237:=Tryz.func206.trans (congrArg some (by kernel_rfl))
 f238:=Tryz.func208.trans (congrArg some (by kernel_rfl))
 f260:=Tryz.func268.trans (congrArg some (by kernel_rfl))
 f261:=Tryz.func248.trans (congrArg some (by kernel_rfl))
 f271:=Tryz.func238.trans (congrArg some (by kernel_rfl))
 f272:=Tryz.func247.trans (congrArg some (by kernel_rfl))
 f273:=Tryz.func249.trans (congrArg some (by kernel_rfl))
 f311:=Tryz.func274.trans (congrArg some (by kernel_rfl))
 f312:=Tryz.func275.trans (congrArg some (by kernel_rfl))
 f315:=Tryz.func209.trans (congrArg some (by kernel_rfl))
 t0:=Tryz.underlying0
 a0:=Tryz.isAgg0
 z0:=Tryz.sizeOf0
 v0:=Tryz.zeroValue0
 t3:=Tryz.underlying3
 a3:=Tryz.isAgg3
 z3:=Tryz.sizeOf3
 v3:=Tryz.zeroValue3
 t4:=Tryz.underlying4
 a4:=Tryz.isAgg4
 z4:=Tryz.sizeOf4
 v4:=Tryz.zeroValue4
 t5:=Tryz.underlying5
 a5:=Tryz.isAgg5
 z5:=Tryz.sizeOf5
 v5:=Tryz.zeroValue5
 t9:=Tryz.underlying9
 a9:=Tryz.isAgg9
 z9:=Tryz.sizeOf9
 v9:=Tryz.zeroValue9
 t21:=Tryz.underlying21
 a21:=Tryz.isAgg21
 z21:=Tryz.sizeOf21
 v21:=Tryz.zeroValue21
 t37:=Tryz.underlying101
 a37:=Tryz.isAgg101
 z37:=Tryz.sizeOf101
 v37:=Tryz.zeroValue101
 t40:=Tryz.underlying246
 a40:=Tryz.isAgg246
 z40:=Tryz.sizeOf246
 v40:=Tryz.zeroValue246
 t46:=Tryz.underlying252
 a46:=Tryz.isAgg252
 z46:=Tryz.sizeOf252
 v46:=Tryz.zeroValue252
 t49:=Tryz.underlying324
 a49:=Tryz.isAgg324
 z49:=Tryz.sizeOf324
 v49:=Tryz.zeroValue324
 t51:=Tryz.underlying284
 a51:=Tryz.isAgg284
 z51:=Tryz.sizeOf284
 v51:=Tryz.zeroValue284
 t105:=Tryz.underlying293
 a105:=Tryz.isAgg293
 z105:=Tryz.sizeOf293
 v105:=Tryz.zeroValue293
 t119:=Tryz.underlying268
 a119:=Tryz.isAgg268
 z119:=Tryz.sizeOf268
 t138:=Tryz.underlying341
 a138:=Tryz.isAgg341
 z138:=Tryz.sizeOf341
 v138:=Tryz.zeroValue341
 t139:=Tryz.underlying342
 a139:=Tryz.isAgg342
 z139:=Tryz.sizeOf342
 v139:=Tryz.zeroValue342
 t141:=Tryz.underlying302
 a141:=Tryz.isAgg302
 z141:=Tryz.sizeOf302
 v141:=Tryz.zeroValue302
 t193:=Tryz.underlying320
 a193:=Tryz.isAgg320
 z193:=Tryz.sizeOf320
 v193:=Tryz.zeroValue320
 t194:=Tryz.underlying321
 a194:=Tryz.isAgg321
 z194:=Tryz.sizeOf321
 v194:=Tryz.zeroValue321
 t196:=Tryz.underlying323
 a196:=Tryz.isAgg323
 z196:=Tryz.sizeOf323
 v196:=Tryz.zeroValue323
 t198:=Tryz.underlying326
 a198:=Tryz.isAgg326
 z198:=Tryz.sizeOf326
 v198:=Tryz.zeroValue326
 t201:=Tryz.underlying329
 a201:=Tryz.isAgg329
 z201:=Tryz.sizeOf329
 v201:=Tryz.zeroValue329
 t226:=Tryz.underlying344
 a226:=Tryz.isAgg344
 z226:=Tryz.sizeOf344
 v226:=Tryz.zeroValue344
 t227:=Tryz.underlying345
 a227:=Tryz.isAgg345
 z227:=Tryz.sizeOf345
 v227:=Tryz.zeroValue345
 g0:=by kernel_rfl
 g3:=by kernel_rfl
 g4:=by kernel_rfl
 g6:=by kernel_rfl
}
theorem extraTrim:Go.Proofs.Space.Extra Tryz.prog layTrim_ren:=⟨by kernel_rfl⟩
end Go.Dw
namespace Go.Dx
open Go.Proofs
def spTab:List Value:=Lib.asciiSpaceTab.map fun z=>Value.int .u8 z
theorem ZF8 {s r:List UInt8}(hs:s.length<=9223372036854775807)(ha:∀b∈s,b.toNat<128)(hr:Lib.trimSpace s=r):OrcT Tryz.prog spTab 182 [.string ⟨⟨s⟩⟩] (.string ⟨⟨r⟩⟩):=by
 refine⟨rfl,rfl,fun w hw=>?_⟩;obtain⟨t,fz,hw⟩:=hw;have htab : Lib.TabIs Tryz.prog w "strings.asciiSpace" .u8 Lib.asciiSpaceTab := by
  unfold Lib.TabIs World.var?;rw[Go.Dw.extraTrim.gNamed]
  show (match w.heap[0]? with|some (.cells cs _ _)=>some cs|_=>none)=_
  rw[hw]
  rfl
 refine (Go.Proofs.Any.strings_TrimSpace Go.Dw.layTrim Go.Dw.extraTrim ⟨⟨s⟩⟩ w hs (fun j b hj=>ha b (List.mem_of_getElem? hj)) htab).mono ?_;rintro e w' ⟨rfl,rfl⟩;refine⟨by rw[<-hr],by rw[Lib.bytesWorld_size];omega,fun c hc=>Lib.bytesWorld_at_old w _ _ c hc,rfl,rfl⟩
end Go.Dx
namespace Go.Dw
open Go Go.Dx Go.Proofs
set_option maxRecDepth 100000
structure LibW (w:World):Prop where
 sp : Lib.TabIs Tryz.prog w "strings.asciiSpace" .u8 Lib.asciiSpaceTab
 u8:Lib.Utf8Tabs (layTrim_ren.g 3) (layTrim_ren.g 4) w
 ws:Lib.WhiteTab (layTrim_ren.g 6) w
def LibAt (h:Heap):Prop:=∃W0:World,LibW W0/\Ext (ro W0) h
theorem LibAt.ext {h h':Heap}(a:LibAt h)(he:Ext h h'):LibAt h':=by
 obtain⟨W0,h1,h2⟩:=a;exact⟨W0,h1,h2.trans he⟩
theorem LibAt.of {W:World}(a:LibW W):LibAt (ro W):=⟨W,a,Ext.refl _⟩
theorem ZIR {W0:World}{h:Heap} {ι:Iota}{w:World}(he:Ext (ro W0) h)(hr:HR ι h w.heap):∀b,b<W0.heap.size->w.heap[b]?=W0.heap[b]?:=by
 intro b hb;have hg:(ro W0).get b=some (.ro W0.heap.size (W0.heap[b]'hb)):=by rw[roH_get,Array.getElem?_eq_getElem hb];rfl
 obtain⟨bi,o',i1,hw,ho⟩:=hr.obj b _ (he.get hg);simp only[OR] at ho;obtain⟨bi',e1,e2⟩:=ho.2 b hb;rw[i1] at e1;cases e1;rw[<-e2,hw,ho.1,e2,Array.getElem?_eq_getElem hb]
theorem ZJh {w w' : World} (h : Lib.TabIs Tryz.prog w "strings.asciiSpace" .u8 Lib.asciiSpaceTab) (hs : w'.heap[0]? = w.heap[0]?) : Lib.TabIs Tryz.prog w' "strings.asciiSpace" .u8 Lib.asciiSpaceTab := by
 unfold Lib.TabIs World.var? at h ⊢;rw[extraTrim.gNamed] at h ⊢
 change (match w.heap[0]? with|some (.cells cs _ _)=>some cs|_=>none)=_ at h
 show (match w'.heap[0]? with|some (.cells cs _ _)=>some cs|_=>none)=_
 rw[hs];exact h
theorem LibAt.w {h:Heap} {ι:Iota}{w:World}(a:LibAt h)(hr:HR ι h w.heap):LibW w:=by
 obtain⟨W0,⟨h1,h2,h3⟩,he⟩:=a;have hs:=ZIR he hr;have hsz:W0.heap.size<=w.heap.size:=by
  rcases Nat.lt_or_ge w.heap.size W0.heap.size with g|g
  ·have:=hs _ g
   rw[Array.getElem?_eq_none (Nat.le_refl _),Array.getElem?_eq_getElem g] at this;cases this
  ·exact g
 have hb:RowKit.Below W0.heap.size W0 { W0 with heap:=w.heap }:=⟨rfl,rfl,rfl,hsz,hs⟩
 have h0:0<W0.heap.size:=by
  unfold Lib.TabIs World.var? at h1;rw[extraTrim.gNamed] at h1
  change (match W0.heap[0]? with|some (.cells cs _ _)=>some cs|_=>none)=_ at h1
  split at h1
  ·rename_i hq
   exact (Array.getElem?_eq_some_iff.1 hq).1
  ·cases h1
 have hc:∀a,w.cell? a=({ W0 with heap:=w.heap }:World).cell? a:=fun a=>rfl
 have u2:=Utf8Tabs_below h2 hb;have u3:=WhiteTab_below h3 hb;refine⟨ZJh h1 (hs 0 h0),?_,?_⟩
 ·unfold Lib.Utf8Tabs at u2 ⊢
  simp only[hc];exact u2
 ·unfold Lib.WhiteTab at u3 ⊢
  simp only[hc];exact u3
theorem ZCu {w w':World}(h:RowKit.Below w.heap.size w w'):Unch w w':=⟨h.size,h.block,h.os,h.output⟩
theorem ZGy {ι:Iota}{h:Heap}{w w':World}{v v':Value}(N:Nat)(hr:HR ι h w.heap)(hgl:h.gl≠0)(u:Unch w w')(hv:∀ι':Iota,Sub ι ι'->ι' h.nx=some ⟨N,0,0⟩->VR ι' v v'):ZCU ι h w (.ret v (rsv h)) (.returned v') w':=by
 have hsub:=hr.sub_upd ⟨N,0,0⟩;have hr2:=u.hr hr;refine⟨Dx.upd ι h.nx ⟨N,0,0⟩,v',rfl,hv _ hsub (Dx.upd_same _ _ _),⟨?_,?_,?_,?_,?_⟩,?_⟩
 ·intro b o hb
  obtain⟨bi,o',e1,e2,e3⟩:=hr2.obj b o hb;exact⟨bi,o',hsub _ _ e1,e2,e3.mono hsub⟩
 ·intro b b' o o' bi bi' g1 g2 i1 i2 e
  have l1:∀c x,h.get c=some x->∀y,Dx.upd ι h.nx ⟨N,0,0⟩ c=some y->ι c=some y:=by
   intro c x hc y hy;obtain⟨bi,o',e1,e2,e3⟩:=hr2.obj c x hc;have:=hsub _ _ e1;rw[this] at hy;cases hy;exact e1
  exact hr2.inj b b' o o' bi bi' g1 g2 (l1 _ _ g1 _ i1) (l1 _ _ g2 _ i2) e
 ·intro b bi hb
  show b<h.nx+1
  by_cases e:b=h.nx
  ·omega
  ·rw[Dx.upd_other _ _ e] at hb
   have:=hr.fresh _ _ hb;omega
 ·intro g bi hg hb
  have hg':g<h.gl:=hg;have:=hr.gn;rw[Dx.upd_other _ _ (by omega)] at hb;exact hr.glo g bi hg' hb
 ·show h.gl<=h.nx+1
  have:=hr.gn;omega
 ·refine⟨hsub,u.sz,fun c hc _=>u.same c hc,fun c ⟨b,o,bi,g1,g2,g3⟩ _=>?_,Nat.le_succ _,fun b hb=>Dx.upd_other _ _ (by omega),rfl,u.os,u.out,fun e=>absurd e hgl⟩
  obtain⟨bi2,o',e1,e2,e3⟩:=hr2.obj b o g1;have:=hsub _ _ e1;rw[g2] at this;cases this;exact⟨b,o,_,g1,e1,g3⟩
theorem ZFH {ι:Iota}{h:Heap}{w w':World}{v v':Value}(hr:HR ι h w.heap)(hgl:h.gl≠0)(hv:VR ι v v')(u:Unch w w'):ZCU ι h w (.ret v h) (.returned v') w' :=
 ⟨ι,v',rfl,hv,u.hr hr,.refl _,u.sz,fun c hc _=>u.same c hc,fun _ hr _=>hr,Nat.le_refl _,fun _ _=>rfl,rfl,u.os,u.out,fun e=>absurd e hgl⟩
theorem LibAt.gl {h:Heap}(a:LibAt h):h.gl≠0:=by
 obtain⟨W0,⟨h1,-,-⟩,he⟩:=a;have:h.gl=W0.heap.size:=he.2.2;intro e;unfold Lib.TabIs World.var? at h1;rw[extraTrim.gNamed] at h1
 change (match W0.heap[0]? with|some (.cells cs _ _)=>some cs|_=>none)=_ at h1
 have hlt:0<W0.heap.size:=by
  split at h1
  ·rename_i hq
   exact (Array.getElem?_eq_some_iff.1 hq).1
  ·cases h1
 omega
theorem ZJm {s:List UInt8}{h:Heap}(hs:Len s)(hL:LibAt h):Sv Tryz.prog 182 [str s] h (RetP fun v h'=>v=str (Lib.trimSpaceD s)/\h'=h):=by
 refine⟨fun ι w args' hr hv=>?_⟩;have ha:args'.toList=[str s]:=hv.flat_eq rfl;have ha':args'=#[str s]:=by rw[<-Array.toArray_toList (xs:=args'),ha]
 subst ha';obtain⟨h1,h2,h3⟩:=hL.w hr;refine (Any.strings_TrimSpace_any layTrim extraTrim ⟨⟨s⟩⟩ w (by show s.length<=_;unfold Len at hs;omega) h1 h2 h3).mono ?_;rintro e w' ⟨rfl,hb⟩;exact⟨.ret (str (Lib.trimSpaceD s)) h,⟨rfl,rfl⟩,ZFH hr hL.gl (VR.of_flat ι rfl) (ZCu hb)⟩
end Go.Dw
