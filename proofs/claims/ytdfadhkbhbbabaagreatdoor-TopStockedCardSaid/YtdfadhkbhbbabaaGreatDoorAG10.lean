/- X5: the library's contracts of strconv.Itoa and strconv.Atoi, laid at chapter 12's program. -/
import Derived.Shelf.Strconv.Itoa3
import Derived.Shelf.Strconv.ErrVarAll
import Derived.Test.YtdfadhkbhbbabaaGreatDoorAG6
import Derived.Test.YtdfadhkbhbbabaaGreatDoorAG2
import Derived.Test.YtdfadhkbhbbabaaGreatDoorAG7
set_option linter.unusedVariables false
set_option linter.unusedSimpArgs false
namespace Go.Dw
open Go Go.Dx Go.Proofs
set_option maxRecDepth 100000
def ZFJ:Go.Shelf.Ren:=⟨fun|129=>109|171=>179|172=>55|205=>178|243=>206|244=>97|245=>98|246=>219|247=>139|279=>140|280=>141|281=>142|282=>143|283=>224|284=>225|285=>226|286=>227|287=>176|316=>177|317=>228|318=>229|319=>230|320=>231|321=>204|322=>205|337=>232|338=>233|n=>n,fun|0=>0|2=>2|3=>3|4=>4|5=>5|9=>9|20=>20|21=>21|37=>211|46=>143|51=>178|53=>180|75=>137|76=>138|85=>212|127=>263|143=>264|145=>266|167=>210|168=>214|171=>280|173=>282|175=>238|210=>241|212=>285|213=>286|232=>287|233=>288|80=>289|n=>n,fun|15=>0|16=>1|17=>5|18=>6|19=>7|n=>n⟩
theorem ZER:Go.Proofs.LaysC.n172 Tryz.prog ZFJ:={
 mixed:=by kernel_rfl
 f129:=Tryz.func109.trans (congrArg some (by kernel_rfl))
 f171:=Tryz.func179.trans (congrArg some (by kernel_rfl))
 f172:=Tryz.func55.trans (congrArg some (by kernel_rfl))
 f205:=Tryz.func178.trans (congrArg some (by kernel_rfl))
 f243:=Tryz.func206.trans (congrArg some (by kernel_rfl))
 f244:=Tryz.func97.trans (congrArg some (by kernel_rfl))
 f245:=Tryz.func98.trans (congrArg some (by kernel_rfl))
 f246:=Tryz.func219.trans (congrArg some (by kernel_rfl))
 f247:=Tryz.func139.trans (congrArg some (by kernel_rfl))
 f279:=Tryz.func140.trans (congrArg some (by kernel_rfl))
 f280:=Tryz.func141.trans (congrArg some (by kernel_rfl))
 f281:=Tryz.func142.trans (congrArg some (by kernel_rfl))
 f282:=Tryz.func143.trans (congrArg some (by kernel_rfl))
 f283:=Tryz.func224.trans (congrArg some (by kernel_rfl))
 f284:=Tryz.func225.trans (congrArg some (by kernel_rfl))
 f285:=Tryz.func226.trans (congrArg some (by kernel_rfl))
 f286:=Tryz.func227.trans (congrArg some (by kernel_rfl))
 f287:=Tryz.func176.trans (congrArg some (by kernel_rfl))
 f316:=Tryz.func177.trans (congrArg some (by kernel_rfl))
 f317:=Tryz.func228.trans (congrArg some (by kernel_rfl))
 f318:=Tryz.func229.trans (congrArg some (by kernel_rfl))
 f319:=Tryz.func230.trans (congrArg some (by kernel_rfl))
 f320:=Tryz.func231.trans (congrArg some (by kernel_rfl))
 f321:=Tryz.func204.trans (congrArg some (by kernel_rfl))
 f322:=Tryz.func205.trans (congrArg some (by kernel_rfl))
 f337:=Tryz.func232.trans (congrArg some (by kernel_rfl))
 f338:=Tryz.func233.trans (congrArg some (by kernel_rfl))
 t0:=Tryz.underlying0
 a0:=Tryz.isAgg0
 z0:=Tryz.sizeOf0
 v0:=Tryz.zeroValue0
 t2:=Tryz.underlying2
 a2:=Tryz.isAgg2
 z2:=Tryz.sizeOf2
 v2:=Tryz.zeroValue2
 t3:=Tryz.underlying3
 a3:=Tryz.isAgg3
 z3:=Tryz.sizeOf3
 v3:=Tryz.zeroValue3
 t4:=Tryz.underlying4
 a4:=Tryz.isAgg4
 z4:=Tryz.sizeOf4
 v4:=Tryz.zeroValue4
 t5:=Tryz.underlying5
 a5:=Tryz.isAgg5
 z5:=Tryz.sizeOf5
 v5:=Tryz.zeroValue5
 t9:=Tryz.underlying9
 a9:=Tryz.isAgg9
 z9:=Tryz.sizeOf9
 v9:=Tryz.zeroValue9
 t20:=Tryz.underlying20
 a20:=Tryz.isAgg20
 z20:=Tryz.sizeOf20
 v20:=Tryz.zeroValue20
 t21:=Tryz.underlying21
 a21:=Tryz.isAgg21
 z21:=Tryz.sizeOf21
 v21:=Tryz.zeroValue21
 t37:=Tryz.underlying211
 a37:=Tryz.isAgg211
 z37:=Tryz.sizeOf211
 v37:=Tryz.zeroValue211
 t46:=Tryz.underlying143
 a46:=Tryz.isAgg143
 z46:=Tryz.sizeOf143
 v46:=Tryz.zeroValue143
 t51:=Tryz.underlying178
 a51:=Tryz.isAgg178
 z51:=Tryz.sizeOf178
 v51:=Tryz.zeroValue178
 t53:=Tryz.underlying180
 a53:=Tryz.isAgg180
 z53:=Tryz.sizeOf180
 v53:=Tryz.zeroValue180
 t75:=Tryz.underlying137
 a75:=Tryz.isAgg137
 z75:=Tryz.sizeOf137
 v75:=Tryz.zeroValue137
 t76:=Tryz.underlying138
 a76:=Tryz.isAgg138
 z76:=Tryz.sizeOf138
 v76:=Tryz.zeroValue138
 t85:=Tryz.underlying212
 a85:=Tryz.isAgg212
 z85:=Tryz.sizeOf212
 v85:=Tryz.zeroValue212
 t127:=Tryz.underlying263
 a127:=Tryz.isAgg263
 z127:=Tryz.sizeOf263
 v127:=Tryz.zeroValue263
 t143:=Tryz.underlying264
 a143:=Tryz.isAgg264
 z143:=Tryz.sizeOf264
 v143:=Tryz.zeroValue264
 t145:=Tryz.underlying266
 a145:=Tryz.isAgg266
 z145:=Tryz.sizeOf266
 v145:=Tryz.zeroValue266
 t167:=Tryz.underlying210
 a167:=Tryz.isAgg210
 z167:=Tryz.sizeOf210
 v167:=Tryz.zeroValue210
 t168:=Tryz.underlying214
 a168:=Tryz.isAgg214
 z168:=Tryz.sizeOf214
 v168:=Tryz.zeroValue214
 t171:=Tryz.underlying280
 a171:=Tryz.isAgg280
 z171:=Tryz.sizeOf280
 v171:=Tryz.zeroValue280
 t173:=Tryz.underlying282
 a173:=Tryz.isAgg282
 z173:=Tryz.sizeOf282
 v173:=Tryz.zeroValue282
 t175:=Tryz.underlying238
 a175:=Tryz.isAgg238
 z175:=Tryz.sizeOf238
 v175:=Tryz.zeroValue238
 t210:=Tryz.underlying241
 a210:=Tryz.isAgg241
 z210:=Tryz.sizeOf241
 v210:=Tryz.zeroValue241
 t212:=Tryz.underlying285
 a212:=Tryz.isAgg285
 z212:=Tryz.sizeOf285
 v212:=Tryz.zeroValue285
 t213:=Tryz.underlying286
 a213:=Tryz.isAgg286
 z213:=Tryz.sizeOf286
 t232:=Tryz.underlying287
 a232:=Tryz.isAgg287
 z232:=Tryz.sizeOf287
 v232:=Tryz.zeroValue287
 t233:=Tryz.underlying288
 a233:=Tryz.isAgg288
 z233:=Tryz.sizeOf288
 v233:=Tryz.zeroValue288
 g15:=by kernel_rfl
 g16:=by kernel_rfl
 g17:=by kernel_rfl
 g18:=by kernel_rfl
 g19:=by kernel_rfl
 t80:=Tryz.underlying289
 a80:=Tryz.isAgg289
 z80:=Tryz.sizeOf289
 v80:=Tryz.zeroValue289
 i0:=by kernel_rfl
 i2:=by kernel_rfl
 i3:=by kernel_rfl
 i4:=by kernel_rfl
 i5:=by kernel_rfl
 i9:=by kernel_rfl
 i20:=by kernel_rfl
 i21:=by kernel_rfl
 i37:=by kernel_rfl
 i46:=by kernel_rfl
 i51:=by kernel_rfl
 i53:=by kernel_rfl
 i75:=by kernel_rfl
 i76:=by kernel_rfl
 i80:=by kernel_rfl
 i85:=by kernel_rfl
 i127:=by kernel_rfl
 i143:=by kernel_rfl
 i145:=by kernel_rfl
 i167:=by kernel_rfl
 i168:=by kernel_rfl
 i171:=by kernel_rfl
 i173:=by kernel_rfl
 i175:=by kernel_rfl
 i210:=by kernel_rfl
 i212:=by kernel_rfl
 i232:=by kernel_rfl
 i233:=by kernel_rfl
 m15:=by kernel_rfl
 m16:=by kernel_rfl
 m17:=by kernel_rfl
 m18:=by kernel_rfl
 m19:=by kernel_rfl
 c0:=by kernel_rfl
 c2:=by kernel_rfl
 c3:=by kernel_rfl
 c4:=by kernel_rfl
 c5:=by kernel_rfl
 c9:=by kernel_rfl
 c20:=by kernel_rfl
 c21:=by kernel_rfl
 c37:=by kernel_rfl
 c46:=by kernel_rfl
 c51:=by kernel_rfl
 c53:=by kernel_rfl
 c75:=by kernel_rfl
 c76:=by kernel_rfl
 c80:=by kernel_rfl
 c85:=by kernel_rfl
 c127:=by kernel_rfl
 c143:=by kernel_rfl
 c145:=by kernel_rfl
 c167:=by kernel_rfl
 c168:=by kernel_rfl
 c171:=by kernel_rfl
 c173:=by kernel_rfl
 c175:=by kernel_rfl
 c210:=by kernel_rfl
 c212:=by kernel_rfl
 c213:=by kernel_rfl
 c232:=by kernel_rfl
 c233:=by kernel_rfl
}
structure WkW (w:World):Prop where
 pow : Lib.TabIs Tryz.prog w "internal/strconv.uint64pow10" .u64 Lib.pow10Tab
 es : ∃ tp p, w.var? Tryz.prog "strconv.ErrSyntax" = some #[.iface tp p]
 er : ∃ tp p, w.var? Tryz.prog "strconv.ErrRange" = some #[.iface tp p]
def WkLib (h:Heap):Prop:=∃W0:World,WkW W0/\Ext (ro W0) h
theorem WkLib.ext {h h':Heap}(a:WkLib h)(he:Ext h h'):WkLib h':=by
 obtain⟨W0,h1,h2⟩:=a;exact⟨W0,h1,h2.trans he⟩
theorem WkLib.of {W:World}(a:WkW W):WkLib (ro W):=⟨W,a,Ext.refl _⟩
theorem ZTx {W0:World}{h:Heap} {ι:Iota}{w:World}(he:Ext (ro W0) h)(hr:HR ι h w.heap):∀b,b<W0.heap.size->w.heap[b]?=W0.heap[b]?:=by
 intro b hb;have hg:(ro W0).get b=some (.ro W0.heap.size (W0.heap[b]'hb)):=by rw[ZKF,Array.getElem?_eq_getElem hb];rfl
 obtain⟨bi,o',i1,hw,ho⟩:=hr.obj b _ (he.get hg);simp only[OR] at ho;obtain⟨bi',e1,e2⟩:=ho.2 b hb;rw[i1] at e1;cases e1;rw[<-e2,hw,ho.1,e2,Array.getElem?_eq_getElem hb]
theorem ZJm {w w':World}{nm:String}{g:Nat}{cs:Array Value}(hn:Tryz.prog.globalNamed nm=some g)(h:w.var? Tryz.prog nm=some cs)(hs:∀b,b<w.heap.size->w'.heap[b]?=w.heap[b]?):w'.var? Tryz.prog nm=some cs:=by
 unfold World.var? at h ⊢;rw[hn] at h ⊢
 change (match w.heap[g]? with|some (.cells cs _ _)=>some cs|_=>none)=_ at h
 show (match w'.heap[g]? with|some (.cells cs _ _)=>some cs|_=>none)=_
 have hlt:g<w.heap.size:=by
  split at h
  ·rename_i hq
   exact (Array.getElem?_eq_some_iff.1 hq).1
  ·cases h
 rw[hs g hlt];exact h
theorem WkLib.w {h:Heap} {ι:Iota}{w:World}(a:WkLib h)(hr:HR ι h w.heap):WkW w:=by
 obtain⟨W0,⟨h1,⟨t2,p2,h2⟩,t3,p3,h3⟩,he⟩:=a;have hs:=ZTx he hr;exact⟨ZJm ZER.m17 h1 hs,⟨t2,p2,ZJm ZER.m15 h2 hs⟩,t3,p3,ZJm ZER.m16 h3 hs⟩
theorem ZP1 (w:World)(k:Nat)(os:Array Obj):ZO2 w (Sort.grow (w.drewN k) os):=by
 refine⟨⟨?_,fun c hc=>?_,rfl,rfl⟩,rfl,Nat.le_add_right _ _⟩
 ·show w.heap.size<=(w.heap++os).size
  rw[Array.size_append];omega
 ·show (w.heap++os)[c]?=_
  rw[Array.getElem?_append_left hc]
theorem WkLib.gl {h:Heap}(a:WkLib h):h.gl≠0:=by
 obtain⟨W0,⟨h1,-⟩,he⟩:=a;have:h.gl=W0.heap.size:=he.2.2;intro e;unfold Lib.TabIs World.var? at h1;rw[ZER.m17] at h1
 change (match W0.heap[5]? with|some (.cells cs _ _)=>some cs|_=>none)=_ at h1
 have hlt:5<W0.heap.size:=by
  split at h1
  ·rename_i hq
   exact (Array.getElem?_eq_some_iff.1 hq).1
  ·cases h1
 omega
theorem ZGU {w w':World}(h:RowKit.Below w.heap.size w w'):Unch w w':=⟨h.size,h.block,h.os,h.output⟩
theorem ZUU {n:Int}{h:Heap}(hn:I64 n)(hL:WkLib h):Sv Tryz.prog 179 [i64 n] h (RetP fun v h'=>v=str (Lib.itoa n)/\h'=h):=by
 refine⟨fun ι w args' hr hv=>?_⟩;have ha:args'.toList=[i64 n]:=hv.flat_eq rfl;have ha':args'=#[i64 n]:=by rw[<-Array.toArray_toList (xs:=args'),ha]
 subst ha'
 refine (Any.strconv_Itoa { ZER with } n hn.1 (by have:=hn.2;omega) w (hL.w hr).pow).mono ?_
 rintro e w' ⟨rfl,k,os,rfl⟩;exact⟨.ret (str (Lib.itoa n)) h,⟨rfl,rfl⟩,ZDe hr (VR.of_flat ι rfl) (ZP1 w k os)⟩
theorem ZLB {ι:Iota}{h:Heap}{w w':World}{v v':Value}(N:Nat)(hr:HR ι h w.heap)(hgl:h.gl≠0)(u:Unch w w')(hv:∀ι':Iota,Sub ι ι'->ι' h.nx=some ⟨N,0,0⟩->VR ι' v v'):ZFA ι h w (.ret v (rsv h)) (.returned v') w':=by
 have hsub:=hr.sub_upd ⟨N,0,0⟩;have hr2:=u.hr hr;refine⟨Dx.upd ι h.nx ⟨N,0,0⟩,v',rfl,hv _ hsub (Dx.upd_same _ _ _),⟨?_,?_,?_,?_,?_⟩,?_⟩
 ·intro b o hb
  obtain⟨bi,o',e1,e2,e3⟩:=hr2.obj b o hb;exact⟨bi,o',hsub _ _ e1,e2,e3.mono hsub⟩
 ·intro b b' o o' bi bi' g1 g2 i1 i2 e
  have l1:∀c x,h.get c=some x->∀y,Dx.upd ι h.nx ⟨N,0,0⟩ c=some y->ι c=some y:=by
   intro c x hc y hy;obtain⟨bi,o',e1,e2,e3⟩:=hr2.obj c x hc;have:=hsub _ _ e1;rw[this] at hy;cases hy;exact e1
  exact hr2.inj b b' o o' bi bi' g1 g2 (l1 _ _ g1 _ i1) (l1 _ _ g2 _ i2) e
 ·intro b bi hb
  show b<h.nx+1
  by_cases e:b=h.nx
  ·omega
  ·rw[Dx.upd_other _ _ e] at hb
   have:=hr.fresh _ _ hb;omega
 ·intro g bi hg hb
  have hg':g<h.gl:=hg;have:=hr.gn;rw[Dx.upd_other _ _ (by omega)] at hb;exact hr.glo g bi hg' hb
 ·show h.gl<=h.nx+1
  have:=hr.gn;omega
 ·refine⟨hsub,u.sz,fun c hc _=>u.same c hc,fun c ⟨b,o,bi,g1,g2,g3⟩ _=>?_,Nat.le_succ _,fun b hb=>Dx.upd_other _ _ (by omega),rfl,u.os,u.out,fun e=>absurd e hgl⟩
  obtain⟨bi2,o',e1,e2,e3⟩:=hr2.obj b o g1;have:=hsub _ _ e1;rw[g2] at this;cases this;exact⟨b,o,_,g1,e1,g3⟩
theorem ZMc {ι:Iota}{h:Heap}{w w':World}{v v':Value}(hr:HR ι h w.heap)(hgl:h.gl≠0)(hv:VR ι v v')(u:Unch w w'):ZFA ι h w (.ret v h) (.returned v') w' :=
 ⟨ι,v',rfl,hv,u.hr hr,.refl _,u.sz,fun c hc _=>u.same c hc,fun _ hr _=>hr,Nat.le_refl _,fun _ _=>rfl,rfl,u.os,u.out,fun e=>absurd e hgl⟩
def ZVr (s:List UInt8)(h:Heap)(v:Value)(h':Heap):Prop :=
 Ext h h'/\((∃n,Lib.atoiAll s=.ok n/\v=.tuple ⟨[i64 n,.nilIface]⟩)\/((∀n,Lib.atoiAll s≠.ok n)/\∃n t b,v=.tuple ⟨[i64 n,.iface t (.pointer (some ⟨b,0,none⟩))]⟩))
theorem ZPY {s:List UInt8}{h:Heap}(hs:s.length<=281474976710656)(hL:WkLib h):Sv Tryz.prog 55 [str s] h (RetP (ZVr s h)):=by
 refine⟨fun ι w args' hr hv=>?_⟩;have ha:args'.toList=[str s]:=hv.flat_eq rfl;have ha':args'=#[str s]:=by rw[<-Array.toArray_toList (xs:=args'),ha]
 subst ha';have hw:=hL.w hr;have hgl:=hL.gl;have hsz:(⟨⟨s⟩⟩:ByteArray).size<=281474976710656:=hs
 cases hq:Lib.atoiAll s with
 | ok n =>
  refine (Any.strconv_Atoi_ok ZER ⟨⟨s⟩⟩ (by omega) n hq w).mono ?_;rintro e w' ⟨rfl,hw'⟩;refine⟨.ret (.tuple ⟨[i64 n,.nilIface]⟩) h,⟨Ext.refl _,.inl ⟨n,hq,rfl⟩⟩,ZMc hr hgl (VR.of_flat ι rfl) ?_⟩
  rcases hw' with rfl|⟨t,rfl⟩
  ·exact⟨Nat.le_refl _,fun _ _=>rfl,rfl,rfl⟩
  ·exact ZGU (Lib.bytesWorld_below w _ t)
 | range =>
  obtain⟨tp,p,hvar⟩:=hw.er;refine (Any.strconv_Atoi_range_var ZER ⟨⟨s⟩⟩ hsz hq tp p w hvar).mono ?_;rintro e w' ⟨N,rfl,hN,-,hB⟩;refine⟨.ret (.tuple ⟨[i64 (Lib.atoiSat s),.iface (ZFJ.t 168) (.pointer (some ⟨h.nx,0,none⟩))]⟩) (rsv h),⟨Ext.rsv h,.inr ⟨fun n hn=>by rw[hq] at hn;(cases hn),_,_,_,rfl⟩⟩,ZLB N hr hgl ?_ ?_⟩
  ·exact ZGU hB
  ·intro ι' hs' hi
   exact VR.tup (.cons (.int _ _) (.cons (.iface _ (VR.ptr (bi:=⟨N,0,0⟩) hi)) .nil))
 | _ =>
  obtain⟨tp,p,hvar⟩:=hw.es;refine (Any.strconv_Atoi_syntax_var ZER ⟨⟨s⟩⟩ hsz hq tp p w hvar).mono ?_;rintro e w' ⟨N,rfl,hN,-,hB⟩;refine⟨.ret (.tuple ⟨[i64 0,.iface (ZFJ.t 168) (.pointer (some ⟨h.nx,0,none⟩))]⟩) (rsv h),⟨Ext.rsv h,.inr ⟨fun n hn=>by rw[hq] at hn;(cases hn),0,_,_,rfl⟩⟩,ZLB N hr hgl ?_ ?_⟩
  ·exact ZGU hB
  ·intro ι' hs' hi
   exact VR.tup (.cons (.int _ _) (.cons (.iface _ (VR.ptr (bi:=⟨N,0,0⟩) hi)) .nil))
end Go.Dw
