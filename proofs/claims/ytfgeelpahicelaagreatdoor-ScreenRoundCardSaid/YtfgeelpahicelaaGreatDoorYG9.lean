/- X9: the library's own contracts of sorting, laid at this program: the text of the kit's command shelf_lay_g, in plain words. -/
import Derived.Shelf.SortM.Plain
import Derived.Shelf.SortM.SortNone
import Derived.Shelf.SlSortCmp.NoneTotal
import Derived.Shelf.Strconv.Itoa3
import Derived.Shelf.Strconv.ErrVarAll
import Derived.Test.YtfgeelpahicelaaGreatDoorYG4
import Derived.Test.YtfgeelpahicelaaGreatDoorYG3
import Derived.Test.YtfgeelpahicelaaGreatDoorYG2
set_option linter.unusedVariables false
set_option linter.unusedSimpArgs false
namespace Go.Dw
open Go Go.Dx Go.Proofs Go.Sort
set_option maxRecDepth 100000
def ZNc:Go.Shelf.Ren:=⟨fun|5=>159|8=>188|7=>187|19=>223|20=>224|10=>214|11=>215|12=>216|13=>217|14=>218|15=>219|16=>220|17=>221|18=>222|30=>254|31=>255|32=>256|33=>257|34=>258|35=>259|40=>278|n=>n,fun|23=>52|25=>3|3=>3|32=>252|22=>52|0=>0|44=>284|46=>271|4=>4|36=>278|35=>277|41=>227|5=>5|9=>9|53=>306|57=>310|63=>331|64=>332|n=>n,fun|n=>n⟩
def ZMg:Go.Shelf.Ren:=⟨fun|6=>174|15=>188|14=>203|28=>223|29=>224|20=>239|21=>240|22=>241|23=>242|24=>243|25=>244|26=>245|27=>246|46=>271|47=>255|48=>256|49=>272|50=>273|57=>283|n=>n,fun|22=>29|24=>51|25=>240|3=>3|39=>252|0=>0|53=>284|55=>271|4=>4|46=>278|45=>277|50=>227|5=>5|9=>9|66=>306|70=>310|76=>331|77=>332|n=>n,fun|n=>n⟩
end Go.Dw
namespace Go.Dw
open Go Go.Dx Go.Proofs
set_option maxRecDepth 100000
def ZID:Go.Shelf.Ren:=⟨fun|129=>224|171=>95|243=>153|246=>186|283=>210|284=>211|285=>212|286=>213|317=>250|318=>251|319=>252|320=>253|337=>276|338=>277|n=>n,fun|0=>0|2=>2|3=>3|4=>4|5=>5|9=>9|20=>20|37=>101|46=>252|51=>284|53=>271|171=>270|173=>274|212=>304|213=>305|232=>346|233=>347|n=>n,fun|17=>2|18=>8|19=>9|n=>n⟩
theorem ZKm:Go.Proofs.LaysM.n171 Tryz.prog ZID:={
 mixed:=by kernel_rfl
 f129:=Tryz.func224.trans (congrArg some (by kernel_rfl))
 f171:=Tryz.func95.trans (congrArg some (by kernel_rfl))
 f243:=Tryz.func153.trans (congrArg some (by kernel_rfl))
 f246:=Tryz.func186.trans (congrArg some (by kernel_rfl))
 f283:=Tryz.func210.trans (congrArg some (by kernel_rfl))
 f284:=Tryz.func211.trans (congrArg some (by kernel_rfl))
 f285:=Tryz.func212.trans (congrArg some (by kernel_rfl))
 f286:=Tryz.func213.trans (congrArg some (by kernel_rfl))
 f317:=Tryz.func250.trans (congrArg some (by kernel_rfl))
 f318:=Tryz.func251.trans (congrArg some (by kernel_rfl))
 f319:=Tryz.func252.trans (congrArg some (by kernel_rfl))
 f320:=Tryz.func253.trans (congrArg some (by kernel_rfl))
 f337:=Tryz.func276.trans (congrArg some (by kernel_rfl))
 f338:=Tryz.func277.trans (congrArg some (by kernel_rfl))
 t0:=Tryz.underlying0
 a0:=Tryz.isAgg0
 z0:=Tryz.sizeOf0
 v0:=Tryz.zeroValue0
 t2:=Tryz.underlying2
 a2:=Tryz.isAgg2
 z2:=Tryz.sizeOf2
 v2:=Tryz.zeroValue2
 t3:=Tryz.underlying3
 a3:=Tryz.isAgg3
 z3:=Tryz.sizeOf3
 v3:=Tryz.zeroValue3
 t4:=Tryz.underlying4
 a4:=Tryz.isAgg4
 z4:=Tryz.sizeOf4
 v4:=Tryz.zeroValue4
 t5:=Tryz.underlying5
 a5:=Tryz.isAgg5
 z5:=Tryz.sizeOf5
 v5:=Tryz.zeroValue5
 t9:=Tryz.underlying9
 a9:=Tryz.isAgg9
 z9:=Tryz.sizeOf9
 v9:=Tryz.zeroValue9
 t20:=Tryz.underlying20
 a20:=Tryz.isAgg20
 z20:=Tryz.sizeOf20
 v20:=Tryz.zeroValue20
 t37:=Tryz.underlying101
 a37:=Tryz.isAgg101
 z37:=Tryz.sizeOf101
 v37:=Tryz.zeroValue101
 t46:=Tryz.underlying252
 a46:=Tryz.isAgg252
 z46:=Tryz.sizeOf252
 v46:=Tryz.zeroValue252
 t51:=Tryz.underlying284
 a51:=Tryz.isAgg284
 z51:=Tryz.sizeOf284
 v51:=Tryz.zeroValue284
 t53:=Tryz.underlying271
 a53:=Tryz.isAgg271
 z53:=Tryz.sizeOf271
 v53:=Tryz.zeroValue271
 t171:=Tryz.underlying270
 a171:=Tryz.isAgg270
 z171:=Tryz.sizeOf270
 v171:=Tryz.zeroValue270
 t173:=Tryz.underlying274
 a173:=Tryz.isAgg274
 z173:=Tryz.sizeOf274
 v173:=Tryz.zeroValue274
 t212:=Tryz.underlying304
 a212:=Tryz.isAgg304
 z212:=Tryz.sizeOf304
 v212:=Tryz.zeroValue304
 t213:=Tryz.underlying305
 a213:=Tryz.isAgg305
 z213:=Tryz.sizeOf305
 t232:=Tryz.underlying346
 a232:=Tryz.isAgg346
 z232:=Tryz.sizeOf346
 v232:=Tryz.zeroValue346
 t233:=Tryz.underlying347
 a233:=Tryz.isAgg347
 z233:=Tryz.sizeOf347
 v233:=Tryz.zeroValue347
 g17:=by kernel_rfl
 g18:=by kernel_rfl
 g19:=by kernel_rfl
 i0:=by kernel_rfl
 i2:=by kernel_rfl
 i3:=by kernel_rfl
 i4:=by kernel_rfl
 i5:=by kernel_rfl
 i9:=by kernel_rfl
 i20:=by kernel_rfl
 i37:=by kernel_rfl
 i46:=by kernel_rfl
 i51:=by kernel_rfl
 i53:=by kernel_rfl
 i171:=by kernel_rfl
 i173:=by kernel_rfl
 i212:=by kernel_rfl
 i232:=by kernel_rfl
 i233:=by kernel_rfl
 m17:=by kernel_rfl
 m18:=by kernel_rfl
 m19:=by kernel_rfl
}
def PowW (w : World) : Prop := Lib.TabIs Tryz.prog w "internal/strconv.uint64pow10" .u64 Lib.pow10Tab
def PowAt (h:Heap):Prop:=∃W0:World,PowW W0/\Ext (ro W0) h
theorem PowAt.ext {h h':Heap}(a:PowAt h)(he:Ext h h'):PowAt h':=by
 obtain⟨W0,h1,h2⟩:=a;exact⟨W0,h1,h2.trans he⟩
theorem PowAt.of {W:World}(a:PowW W):PowAt (ro W):=⟨W,a,Ext.refl _⟩
theorem PowAt.w {h:Heap} {ι:Iota}{w:World}(a:PowAt h)(hr:HR ι h w.heap):PowW w:=by
 obtain⟨W0,h1,he⟩:=a;have hs:=ZIR he hr;unfold PowW Lib.TabIs World.var? at h1 ⊢;rw[ZKm.m17] at h1 ⊢
 change (match W0.heap[2]? with|some (.cells cs _ _)=>some cs|_=>none)=_ at h1
 show (match w.heap[2]? with|some (.cells cs _ _)=>some cs|_=>none)=_
 have hlt:2<W0.heap.size:=by
  split at h1
  ·rename_i hq
   exact (Array.getElem?_eq_some_iff.1 hq).1
  ·cases h1
 rw[hs 2 hlt];exact h1
theorem ZKa (w:World)(k:Nat)(os:Array Obj):ZKF w (Sort.grow (w.drewN k) os):=by
 refine⟨⟨?_,fun c hc=>?_,rfl,rfl⟩,rfl,Nat.le_add_right _ _⟩
 ·show w.heap.size<=(w.heap++os).size
  rw[Array.size_append];omega
 ·show (w.heap++os)[c]?=_
  rw[Array.getElem?_append_left hc]
theorem ZNd {n:Int}{h:Heap}(hn:I64 n)(hL:PowAt h):Sv Tryz.prog 95 [i64 n] h (RetP fun v h'=>v=str (Lib.itoa n)/\h'=h):=by
 refine⟨fun ι w args' hr hv=>?_⟩;have ha:args'.toList=[i64 n]:=hv.flat_eq rfl;have ha':args'=#[i64 n]:=by rw[<-Array.toArray_toList (xs:=args'),ha]
 subst ha';refine (Any.strconv_Itoa ZKm n hn.1 (by have:=hn.2;omega) w (hL.w hr)).mono ?_;rintro e w' ⟨rfl,k,os,rfl⟩;exact⟨.ret (str (Lib.itoa n)) h,⟨rfl,rfl⟩,ZJj hr (VR.of_flat ι rfl) (ZKa w k os)⟩
def ZDN:Go.Shelf.Ren:=⟨fun|129=>224|171=>95|172=>165|205=>265|243=>153|244=>191|245=>192|246=>186|247=>227|279=>228|280=>229|281=>230|282=>231|283=>210|284=>211|285=>212|286=>213|287=>263|316=>264|317=>250|318=>251|319=>252|320=>253|321=>280|322=>281|337=>276|338=>277|n=>n,fun|0=>0|2=>2|3=>3|4=>4|5=>5|9=>9|20=>20|21=>21|37=>101|46=>252|51=>284|53=>271|75=>165|76=>166|85=>287|127=>222|143=>337|145=>339|167=>286|168=>289|171=>270|173=>274|175=>312|210=>315|212=>304|213=>305|232=>346|233=>347|80=>169|n=>n,fun|15=>4|16=>5|17=>2|18=>8|19=>9|n=>n⟩
theorem ZEk:Go.Proofs.LaysC.n172 Tryz.prog ZDN:={
 mixed:=by kernel_rfl
 f129:=Tryz.func224.trans (congrArg some (by kernel_rfl))
 f171:=Tryz.func95.trans (congrArg some (by kernel_rfl))
 f172:=Tryz.func165.trans (congrArg some (by kernel_rfl))
 f205:=Tryz.func265.trans (congrArg some (by kernel_rfl))
 f243:=Tryz.func153.trans (congrArg some (by kernel_rfl))
 f244:=Tryz.func191.trans (congrArg some (by kernel_rfl))
 f245:=Tryz.func192.trans (congrArg some (by kernel_rfl))
 f246:=Tryz.func186.trans (congrArg some (by kernel_rfl))
 f247:=Tryz.func227.trans (congrArg some (by kernel_rfl))
 f279:=Tryz.func228.trans (congrArg some (by kernel_rfl))
 f280:=Tryz.func229.trans (congrArg some (by kernel_rfl))
 f281:=Tryz.func230.trans (congrArg some (by kernel_rfl))
 f282:=Tryz.func231.trans (congrArg some (by kernel_rfl))
 f283:=Tryz.func210.trans (congrArg some (by kernel_rfl))
 f284:=Tryz.func211.trans (congrArg some (by kernel_rfl))
 f285:=Tryz.func212.trans (congrArg some (by kernel_rfl))
 f286:=Tryz.func213.trans (congrArg some (by kernel_rfl))
 f287:=Tryz.func263.trans (congrArg some (by kernel_rfl))
 f316:=Tryz.func264.trans (congrArg some (by kernel_rfl))
 f317:=Tryz.func250.trans (congrArg some (by kernel_rfl))
 f318:=Tryz.func251.trans (congrArg some (by kernel_rfl))
 f319:=Tryz.func252.trans (congrArg some (by kernel_rfl))
 f320:=Tryz.func253.trans (congrArg some (by kernel_rfl))
 f321:=Tryz.func280.trans (congrArg some (by kernel_rfl))
 f322:=Tryz.func281.trans (congrArg some (by kernel_rfl))
 f337:=Tryz.func276.trans (congrArg some (by kernel_rfl))
 f338:=Tryz.func277.trans (congrArg some (by kernel_rfl))
 t0:=Tryz.underlying0
 a0:=Tryz.isAgg0
 z0:=Tryz.sizeOf0
 v0:=Tryz.zeroValue0
 t2:=Tryz.underlying2
 a2:=Tryz.isAgg2
 z2:=Tryz.sizeOf2
 v2:=Tryz.zeroValue2
 t3:=Tryz.underlying3
 a3:=Tryz.isAgg3
 z3:=Tryz.sizeOf3
 v3:=Tryz.zeroValue3
 t4:=Tryz.underlying4
 a4:=Tryz.isAgg4
 z4:=Tryz.sizeOf4
 v4:=Tryz.zeroValue4
 t5:=Tryz.underlying5
 a5:=Tryz.isAgg5
 z5:=Tryz.sizeOf5
 v5:=Tryz.zeroValue5
 t9:=Tryz.underlying9
 a9:=Tryz.isAgg9
 z9:=Tryz.sizeOf9
 v9:=Tryz.zeroValue9
 t20:=Tryz.underlying20
 a20:=Tryz.isAgg20
 z20:=Tryz.sizeOf20
 v20:=Tryz.zeroValue20
 t21:=Tryz.underlying21
 a21:=Tryz.isAgg21
 z21:=Tryz.sizeOf21
 v21:=Tryz.zeroValue21
 t37:=Tryz.underlying101
 a37:=Tryz.isAgg101
 z37:=Tryz.sizeOf101
 v37:=Tryz.zeroValue101
 t46:=Tryz.underlying252
 a46:=Tryz.isAgg252
 z46:=Tryz.sizeOf252
 v46:=Tryz.zeroValue252
 t51:=Tryz.underlying284
 a51:=Tryz.isAgg284
 z51:=Tryz.sizeOf284
 v51:=Tryz.zeroValue284
 t53:=Tryz.underlying271
 a53:=Tryz.isAgg271
 z53:=Tryz.sizeOf271
 v53:=Tryz.zeroValue271
 t75:=Tryz.underlying165
 a75:=Tryz.isAgg165
 z75:=Tryz.sizeOf165
 v75:=Tryz.zeroValue165
 t76:=Tryz.underlying166
 a76:=Tryz.isAgg166
 z76:=Tryz.sizeOf166
 v76:=Tryz.zeroValue166
 t85:=Tryz.underlying287
 a85:=Tryz.isAgg287
 z85:=Tryz.sizeOf287
 v85:=Tryz.zeroValue287
 t127:=Tryz.underlying222
 a127:=Tryz.isAgg222
 z127:=Tryz.sizeOf222
 v127:=Tryz.zeroValue222
 t143:=Tryz.underlying337
 a143:=Tryz.isAgg337
 z143:=Tryz.sizeOf337
 v143:=Tryz.zeroValue337
 t145:=Tryz.underlying339
 a145:=Tryz.isAgg339
 z145:=Tryz.sizeOf339
 v145:=Tryz.zeroValue339
 t167:=Tryz.underlying286
 a167:=Tryz.isAgg286
 z167:=Tryz.sizeOf286
 v167:=Tryz.zeroValue286
 t168:=Tryz.underlying289
 a168:=Tryz.isAgg289
 z168:=Tryz.sizeOf289
 v168:=Tryz.zeroValue289
 t171:=Tryz.underlying270
 a171:=Tryz.isAgg270
 z171:=Tryz.sizeOf270
 v171:=Tryz.zeroValue270
 t173:=Tryz.underlying274
 a173:=Tryz.isAgg274
 z173:=Tryz.sizeOf274
 v173:=Tryz.zeroValue274
 t175:=Tryz.underlying312
 a175:=Tryz.isAgg312
 z175:=Tryz.sizeOf312
 v175:=Tryz.zeroValue312
 t210:=Tryz.underlying315
 a210:=Tryz.isAgg315
 z210:=Tryz.sizeOf315
 v210:=Tryz.zeroValue315
 t212:=Tryz.underlying304
 a212:=Tryz.isAgg304
 z212:=Tryz.sizeOf304
 v212:=Tryz.zeroValue304
 t213:=Tryz.underlying305
 a213:=Tryz.isAgg305
 z213:=Tryz.sizeOf305
 t232:=Tryz.underlying346
 a232:=Tryz.isAgg346
 z232:=Tryz.sizeOf346
 v232:=Tryz.zeroValue346
 t233:=Tryz.underlying347
 a233:=Tryz.isAgg347
 z233:=Tryz.sizeOf347
 v233:=Tryz.zeroValue347
 g15:=by kernel_rfl
 g16:=by kernel_rfl
 g17:=by kernel_rfl
 g18:=by kernel_rfl
 g19:=by kernel_rfl
 t80:=Tryz.underlying169
 a80:=Tryz.isAgg169
 z80:=Tryz.sizeOf169
 v80:=Tryz.zeroValue169
 i0:=by kernel_rfl
 i2:=by kernel_rfl
 i3:=by kernel_rfl
 i4:=by kernel_rfl
 i5:=by kernel_rfl
 i9:=by kernel_rfl
 i20:=by kernel_rfl
 i21:=by kernel_rfl
 i37:=by kernel_rfl
 i46:=by kernel_rfl
 i51:=by kernel_rfl
 i53:=by kernel_rfl
 i75:=by kernel_rfl
 i76:=by kernel_rfl
 i80:=by kernel_rfl
 i85:=by kernel_rfl
 i127:=by kernel_rfl
 i143:=by kernel_rfl
 i145:=by kernel_rfl
 i167:=by kernel_rfl
 i168:=by kernel_rfl
 i171:=by kernel_rfl
 i173:=by kernel_rfl
 i175:=by kernel_rfl
 i210:=by kernel_rfl
 i212:=by kernel_rfl
 i232:=by kernel_rfl
 i233:=by kernel_rfl
 m15:=by kernel_rfl
 m16:=by kernel_rfl
 m17:=by kernel_rfl
 m18:=by kernel_rfl
 m19:=by kernel_rfl
 c0:=by kernel_rfl
 c2:=by kernel_rfl
 c3:=by kernel_rfl
 c4:=by kernel_rfl
 c5:=by kernel_rfl
 c9:=by kernel_rfl
 c20:=by kernel_rfl
 c21:=by kernel_rfl
 c37:=by kernel_rfl
 c46:=by kernel_rfl
 c51:=by kernel_rfl
 c53:=by kernel_rfl
 c75:=by kernel_rfl
 c76:=by kernel_rfl
 c80:=by kernel_rfl
 c85:=by kernel_rfl
 c127:=by kernel_rfl
 c143:=by kernel_rfl
 c145:=by kernel_rfl
 c167:=by kernel_rfl
 c168:=by kernel_rfl
 c171:=by kernel_rfl
 c173:=by kernel_rfl
 c175:=by kernel_rfl
 c210:=by kernel_rfl
 c212:=by kernel_rfl
 c213:=by kernel_rfl
 c232:=by kernel_rfl
 c233:=by kernel_rfl
}
structure ErrW (w:World):Prop where
 es : ∃ tp p, w.var? Tryz.prog "strconv.ErrSyntax" = some #[.iface tp p]
 er : ∃ tp p, w.var? Tryz.prog "strconv.ErrRange" = some #[.iface tp p]
def ErrAt (h:Heap):Prop:=∃W0:World,ErrW W0/\Ext (ro W0) h
theorem ErrAt.ext {h h':Heap}(a:ErrAt h)(he:Ext h h'):ErrAt h':=by
 obtain⟨W0,h1,h2⟩:=a;exact⟨W0,h1,h2.trans he⟩
theorem ErrAt.of {W:World}(a:ErrW W):ErrAt (ro W):=⟨W,a,Ext.refl _⟩
theorem ZJJ {w w':World}{nm:String}{g:Nat}{cs:Array Value}(hn:Tryz.prog.globalNamed nm=some g)(h:w.var? Tryz.prog nm=some cs)(hs:∀b,b<w.heap.size->w'.heap[b]?=w.heap[b]?):w'.var? Tryz.prog nm=some cs:=by
 unfold World.var? at h ⊢;rw[hn] at h ⊢
 change (match w.heap[g]? with|some (.cells cs _ _)=>some cs|_=>none)=_ at h
 show (match w'.heap[g]? with|some (.cells cs _ _)=>some cs|_=>none)=_
 have hlt:g<w.heap.size:=by
  split at h
  ·rename_i hq
   exact (Array.getElem?_eq_some_iff.1 hq).1
  ·cases h
 rw[hs g hlt];exact h
theorem ErrAt.w {h:Heap} {ι:Iota}{w:World}(a:ErrAt h)(hr:HR ι h w.heap):ErrW w:=by
 obtain⟨W0,⟨⟨t2,p2,h2⟩,t3,p3,h3⟩,he⟩:=a;have hs:=ZIR he hr;exact⟨⟨t2,p2,ZJJ ZEk.m15 h2 hs⟩,t3,p3,ZJJ ZEk.m16 h3 hs⟩
def ZOX (s:List UInt8)(h:Heap)(v:Value)(h':Heap):Prop :=
 Ext h h'/\((∃n,Lib.atoiAll s=.ok n/\v=.tuple ⟨[i64 n,.nilIface]⟩)\/((∀n,Lib.atoiAll s≠.ok n)/\∃n t b,v=.tuple ⟨[i64 n,.iface t (.pointer (some ⟨b,0,none⟩))]⟩))
theorem ZKz {s:List UInt8}{h:Heap}(hs:s.length<=281474976710656)(hE:ErrAt h)(hgl:h.gl≠0):Sv Tryz.prog 165 [str s] h (RetP (ZOX s h)):=by
 refine⟨fun ι w args' hr hv=>?_⟩;have ha:args'.toList=[str s]:=hv.flat_eq rfl;have ha':args'=#[str s]:=by rw[<-Array.toArray_toList (xs:=args'),ha]
 subst ha';have hw:=hE.w hr;have hsz:(⟨⟨s⟩⟩:ByteArray).size<=281474976710656:=hs
 cases hq:Lib.atoiAll s with
 | ok n =>
  refine (Any.strconv_Atoi_ok ZEk ⟨⟨s⟩⟩ (by omega) n hq w).mono ?_;rintro e w' ⟨rfl,hw'⟩;refine⟨.ret (.tuple ⟨[i64 n,.nilIface]⟩) h,⟨Ext.refl _,.inl ⟨n,hq,rfl⟩⟩,ZFH hr hgl (VR.of_flat ι rfl) ?_⟩
  rcases hw' with rfl|⟨t,rfl⟩
  ·exact⟨Nat.le_refl _,fun _ _=>rfl,rfl,rfl⟩
  ·exact ZCu (Lib.bytesWorld_below w _ t)
 | range =>
  obtain⟨tp,p,hvar⟩:=hw.er;refine (Any.strconv_Atoi_range_var ZEk ⟨⟨s⟩⟩ hsz hq tp p w hvar).mono ?_;rintro e w' ⟨N,rfl,hN,-,hB⟩;refine⟨.ret (.tuple ⟨[i64 (Lib.atoiSat s),.iface (ZDN.t 168) (.pointer (some ⟨h.nx,0,none⟩))]⟩) (rsv h),⟨Ext.rsv h,.inr ⟨fun n hn=>by rw[hq] at hn;(cases hn),_,_,_,rfl⟩⟩,ZGy N hr hgl ?_ ?_⟩
  ·exact ZCu hB
  ·intro ι' hs' hi
   exact VR.tup (.cons (.int _ _) (.cons (.iface _ (VR.ptr (bi:=⟨N,0,0⟩) hi)) .nil))
 | _ =>
  obtain⟨tp,p,hvar⟩:=hw.es;refine (Any.strconv_Atoi_syntax_var ZEk ⟨⟨s⟩⟩ hsz hq tp p w hvar).mono ?_;rintro e w' ⟨N,rfl,hN,-,hB⟩;refine⟨.ret (.tuple ⟨[i64 0,.iface (ZDN.t 168) (.pointer (some ⟨h.nx,0,none⟩))]⟩) (rsv h),⟨Ext.rsv h,.inr ⟨fun n hn=>by rw[hq] at hn;(cases hn),0,_,_,rfl⟩⟩,ZGy N hr hgl ?_ ?_⟩
  ·exact ZCu hB
  ·intro ι' hs' hi
   exact VR.tup (.cons (.int _ _) (.cons (.iface _ (VR.ptr (bi:=⟨N,0,0⟩) hi)) .nil))
end Go.Dw
