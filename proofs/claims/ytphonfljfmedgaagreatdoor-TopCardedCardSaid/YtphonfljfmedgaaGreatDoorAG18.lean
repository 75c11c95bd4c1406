/- X5: the library's contracts of strconv.Itoa and strconv.Atoi, laid at chapter 05's program. -/
import Derived.Shelf.Strconv.Itoa3
import Derived.Shelf.Strconv.ErrVarAll
import Derived.Shelf.Strings.Fields
import Derived.Test.YtphonfljfmedgaaGreatDoorAG3
import Derived.Test.YtphonfljfmedgaaGreatDoorAG2
import Derived.Test.YtphonfljfmedgaaGreatDoorAG13
set_option linter.unusedVariables false
set_option linter.unusedSimpArgs false
namespace Go.Dw
open Go Go.Dx Go.Proofs
set_option maxRecDepth 100000
def ZEv:Go.Shelf.Ren:=⟨fun|129=>107|171=>80|172=>55|205=>146|243=>109|244=>82|245=>83|246=>143|247=>112|279=>113|280=>114|281=>115|282=>116|283=>158|284=>159|285=>160|286=>161|287=>144|316=>145|317=>171|318=>172|319=>173|320=>174|321=>162|322=>163|337=>181|338=>182|n=>n,fun|0=>0|2=>2|3=>3|4=>4|5=>5|9=>9|20=>20|21=>21|37=>126|46=>168|51=>178|53=>204|75=>133|76=>134|85=>218|127=>173|143=>269|145=>271|167=>217|168=>220|171=>264|173=>266|175=>249|210=>253|212=>278|213=>279|232=>285|233=>286|80=>71|n=>n,fun|15=>2|16=>3|17=>4|18=>8|19=>9|n=>n⟩
theorem ZEO:Go.Proofs.LaysC.n172 Tryz.prog ZEv:={
 mixed:=by kernel_rfl
 f129:=Tryz.func107.trans (congrArg some (by kernel_rfl))
 f171:=Tryz.func80.trans (congrArg some (by kernel_rfl))
 f172:=Tryz.func55.trans (congrArg some (by kernel_rfl))
 f205:=Tryz.func146.trans (congrArg some (by kernel_rfl))
 f243:=Tryz.func109.trans (congrArg some (by kernel_rfl))
 f244:=Tryz.func82.trans (congrArg some (by kernel_rfl))
 f245:=Tryz.func83.trans (congrArg some (by kernel_rfl))
 f246:=Tryz.func143.trans (congrArg some (by kernel_rfl))
 f247:=Tryz.func112.trans (congrArg some (by kernel_rfl))
 f279:=Tryz.func113.trans (congrArg some (by kernel_rfl))
 f280:=Tryz.func114.trans (congrArg some (by kernel_rfl))
 f281:=Tryz.func115.trans (congrArg some (by kernel_rfl))
 f282:=Tryz.func116.trans (congrArg some (by kernel_rfl))
 f283:=Tryz.func158.trans (congrArg some (by kernel_rfl))
 f284:=Tryz.func159.trans (congrArg some (by kernel_rfl))
 f285:=Tryz.func160.trans (congrArg some (by kernel_rfl))
 f286:=Tryz.func161.trans (congrArg some (by kernel_rfl))
 f287:=Tryz.func144.trans (congrArg some (by kernel_rfl))
 f316:=Tryz.func145.trans (congrArg some (by kernel_rfl))
 f317:=Tryz.func171.trans (congrArg some (by kernel_rfl))
 f318:=Tryz.func172.trans (congrArg some (by kernel_rfl))
 f319:=Tryz.func173.trans (congrArg some (by kernel_rfl))
 f320:=Tryz.func174.trans (congrArg some (by kernel_rfl))
 f321:=Tryz.func162.trans (congrArg some (by kernel_rfl))
 f322:=Tryz.func163.trans (congrArg some (by kernel_rfl))
 f337:=Tryz.func181.trans (congrArg some (by kernel_rfl))
 f338:=Tryz.func182.trans (congrArg some (by kernel_rfl))
 t0:=Tryz.underlying0
 a0:=Tryz.isAgg0
 z0:=Tryz.sizeOf0
 v0:=Tryz.zeroValue0
 t2:=Tryz.underlying2
 a2:=Tryz.isAgg2
 z2:=Tryz.sizeOf2
 v2:=Tryz.zeroValue2
 t3:=Tryz.underlying3
 a3:=Tryz.isAgg3
 z3:=Tryz.sizeOf3
 v3:=Tryz.zeroValue3
 t4:=Tryz.underlying4
 a4:=Tryz.isAgg4
 z4:=Tryz.sizeOf4
 v4:=Tryz.zeroValue4
 t5:=Tryz.underlying5
 a5:=Tryz.isAgg5
 z5:=Tryz.sizeOf5
 v5:=Tryz.zeroValue5
 t9:=Tryz.underlying9
 a9:=Tryz.isAgg9
 z9:=Tryz.sizeOf9
 v9:=Tryz.zeroValue9
 t20:=Tryz.underlying20
 a20:=Tryz.isAgg20
 z20:=Tryz.sizeOf20
 v20:=Tryz.zeroValue20
 t21:=Tryz.underlying21
 a21:=Tryz.isAgg21
 z21:=Tryz.sizeOf21
 v21:=Tryz.zeroValue21
 t37:=Tryz.underlying126
 a37:=Tryz.isAgg126
 z37:=Tryz.sizeOf126
 v37:=Tryz.zeroValue126
 t46:=Tryz.underlying168
 a46:=Tryz.isAgg168
 z46:=Tryz.sizeOf168
 v46:=Tryz.zeroValue168
 t51:=Tryz.underlying178
 a51:=Tryz.isAgg178
 z51:=Tryz.sizeOf178
 v51:=Tryz.zeroValue178
 t53:=Tryz.underlying204
 a53:=Tryz.isAgg204
 z53:=Tryz.sizeOf204
 v53:=Tryz.zeroValue204
 t75:=Tryz.underlying133
 a75:=Tryz.isAgg133
 z75:=Tryz.sizeOf133
 v75:=Tryz.zeroValue133
 t76:=Tryz.underlying134
 a76:=Tryz.isAgg134
 z76:=Tryz.sizeOf134
 v76:=Tryz.zeroValue134
 t85:=Tryz.underlying218
 a85:=Tryz.isAgg218
 z85:=Tryz.sizeOf218
 v85:=Tryz.zeroValue218
 t127:=Tryz.underlying173
 a127:=Tryz.isAgg173
 z127:=Tryz.sizeOf173
 v127:=Tryz.zeroValue173
 t143:=Tryz.underlying269
 a143:=Tryz.isAgg269
 z143:=Tryz.sizeOf269
 v143:=Tryz.zeroValue269
 t145:=Tryz.underlying271
 a145:=Tryz.isAgg271
 z145:=Tryz.sizeOf271
 v145:=Tryz.zeroValue271
 t167:=Tryz.underlying217
 a167:=Tryz.isAgg217
 z167:=Tryz.sizeOf217
 v167:=Tryz.zeroValue217
 t168:=Tryz.underlying220
 a168:=Tryz.isAgg220
 z168:=Tryz.sizeOf220
 v168:=Tryz.zeroValue220
 t171:=Tryz.underlying264
 a171:=Tryz.isAgg264
 z171:=Tryz.sizeOf264
 v171:=Tryz.zeroValue264
 t173:=Tryz.underlying266
 a173:=Tryz.isAgg266
 z173:=Tryz.sizeOf266
 v173:=Tryz.zeroValue266
 t175:=Tryz.underlying249
 a175:=Tryz.isAgg249
 z175:=Tryz.sizeOf249
 v175:=Tryz.zeroValue249
 t210:=Tryz.underlying253
 a210:=Tryz.isAgg253
 z210:=Tryz.sizeOf253
 v210:=Tryz.zeroValue253
 t212:=Tryz.underlying278
 a212:=Tryz.isAgg278
 z212:=Tryz.sizeOf278
 v212:=Tryz.zeroValue278
 t213:=Tryz.underlying279
 a213:=Tryz.isAgg279
 z213:=Tryz.sizeOf279
 t232:=Tryz.underlying285
 a232:=Tryz.isAgg285
 z232:=Tryz.sizeOf285
 v232:=Tryz.zeroValue285
 t233:=Tryz.underlying286
 a233:=Tryz.isAgg286
 z233:=Tryz.sizeOf286
 v233:=Tryz.zeroValue286
 g15:=by kernel_rfl
 g16:=by kernel_rfl
 g17:=by kernel_rfl
 g18:=by kernel_rfl
 g19:=by kernel_rfl
 t80:=Tryz.underlying71
 a80:=Tryz.isAgg71
 z80:=Tryz.sizeOf71
 v80:=Tryz.zeroValue71
 i0:=by kernel_rfl
 i2:=by kernel_rfl
 i3:=by kernel_rfl
 i4:=by kernel_rfl
 i5:=by kernel_rfl
 i9:=by kernel_rfl
 i20:=by kernel_rfl
 i21:=by kernel_rfl
 i37:=by kernel_rfl
 i46:=by kernel_rfl
 i51:=by kernel_rfl
 i53:=by kernel_rfl
 i75:=by kernel_rfl
 i76:=by kernel_rfl
 i80:=by kernel_rfl
 i85:=by kernel_rfl
 i127:=by kernel_rfl
 i143:=by kernel_rfl
 i145:=by kernel_rfl
 i167:=by kernel_rfl
 i168:=by kernel_rfl
 i171:=by kernel_rfl
 i173:=by kernel_rfl
 i175:=by kernel_rfl
 i210:=by kernel_rfl
 i212:=by kernel_rfl
 i232:=by kernel_rfl
 i233:=by kernel_rfl
 m15:=by kernel_rfl
 m16:=by kernel_rfl
 m17:=by kernel_rfl
 m18:=by kernel_rfl
 m19:=by kernel_rfl
 c0:=by kernel_rfl
 c2:=by kernel_rfl
 c3:=by kernel_rfl
 c4:=by kernel_rfl
 c5:=by kernel_rfl
 c9:=by kernel_rfl
 c20:=by kernel_rfl
 c21:=by kernel_rfl
 c37:=by kernel_rfl
 c46:=by kernel_rfl
 c51:=by kernel_rfl
 c53:=by kernel_rfl
 c75:=by kernel_rfl
 c76:=by kernel_rfl
 c80:=by kernel_rfl
 c85:=by kernel_rfl
 c127:=by kernel_rfl
 c143:=by kernel_rfl
 c145:=by kernel_rfl
 c167:=by kernel_rfl
 c168:=by kernel_rfl
 c171:=by kernel_rfl
 c173:=by kernel_rfl
 c175:=by kernel_rfl
 c210:=by kernel_rfl
 c212:=by kernel_rfl
 c213:=by kernel_rfl
 c232:=by kernel_rfl
 c233:=by kernel_rfl
}
structure WkW (w:World):Prop where
 sp : Lib.TabIs Tryz.prog w "strings.asciiSpace" .u8 Lib.asciiSpaceTab
 pow : Lib.TabIs Tryz.prog w "internal/strconv.uint64pow10" .u64 Lib.pow10Tab
 es : ∃ tp p, w.var? Tryz.prog "strconv.ErrSyntax" = some #[.iface tp p]
 er : ∃ tp p, w.var? Tryz.prog "strconv.ErrRange" = some #[.iface tp p]
def WkLib (h:Heap):Prop:=∃W0:World,WkW W0/\Ext (ro W0) h
theorem WkLib.ext {h h':Heap}(a:WkLib h)(he:Ext h h'):WkLib h':=by
 obtain⟨W0,h1,h2⟩:=a;exact⟨W0,h1,h2.trans he⟩
theorem WkLib.of {W:World}(a:WkW W):WkLib (ro W):=⟨W,a,Ext.refl _⟩
theorem ZS4 {W0:World}{h:Heap} {ι:Iota}{w:World}(he:Ext (ro W0) h)(hr:HR ι h w.heap):∀b,b<W0.heap.size->w.heap[b]?=W0.heap[b]?:=by
 intro b hb;have hg:(ro W0).get b=some (.ro W0.heap.size (W0.heap[b]'hb)):=by rw[ZIt,Array.getElem?_eq_getElem hb];rfl
 obtain⟨bi,o',i1,hw,ho⟩:=hr.obj b _ (he.get hg);simp only[OR] at ho;obtain⟨bi',e1,e2⟩:=ho.2 b hb;rw[i1] at e1;cases e1;rw[<-e2,hw,ho.1,e2,Array.getElem?_eq_getElem hb]
theorem ZGY {w w':World}{nm:String}{g:Nat}{cs:Array Value}(hn:Tryz.prog.globalNamed nm=some g)(h:w.var? Tryz.prog nm=some cs)(hs:∀b,b<w.heap.size->w'.heap[b]?=w.heap[b]?):w'.var? Tryz.prog nm=some cs:=by
 unfold World.var? at h ⊢;rw[hn] at h ⊢
 change (match w.heap[g]? with|some (.cells cs _ _)=>some cs|_=>none)=_ at h
 show (match w'.heap[g]? with|some (.cells cs _ _)=>some cs|_=>none)=_
 have hlt:g<w.heap.size:=by
  split at h
  ·rename_i hq
   exact (Array.getElem?_eq_some_iff.1 hq).1
  ·cases h
 rw[hs g hlt];exact h
theorem WkLib.w {h:Heap} {ι:Iota}{w:World}(a:WkLib h)(hr:HR ι h w.heap):WkW w:=by
 obtain⟨W0,⟨h0,h1,⟨t2,p2,h2⟩,t3,p3,h3⟩,he⟩:=a;have hs:=ZS4 he hr;exact⟨ZGY (g:=0) (by kernel_rfl) h0 hs,ZGY ZEO.m17 h1 hs,⟨t2,p2,ZGY ZEO.m15 h2 hs⟩,t3,p3,ZGY ZEO.m16 h3 hs⟩
theorem ZNu (w:World)(k:Nat)(os:Array Obj):ZNb w (Sort.grow (w.drewN k) os):=by
 refine⟨⟨?_,fun c hc=>?_,rfl,rfl⟩,rfl,Nat.le_add_right _ _⟩
 ·show w.heap.size<=(w.heap++os).size
  rw[Array.size_append];omega
 ·show (w.heap++os)[c]?=_
  rw[Array.getElem?_append_left hc]
theorem WkLib.gl {h:Heap}(a:WkLib h):h.gl≠0:=by
 obtain⟨W0,⟨-,h1,-⟩,he⟩:=a;have:h.gl=W0.heap.size:=he.2.2;intro e;unfold Lib.TabIs World.var? at h1;rw[ZEO.m17] at h1
 change (match W0.heap[4]? with|some (.cells cs _ _)=>some cs|_=>none)=_ at h1
 have hlt:4<W0.heap.size:=by
  split at h1
  ·rename_i hq
   exact (Array.getElem?_eq_some_iff.1 hq).1
  ·cases h1
 omega
theorem ZFe {w w':World}(h:RowKit.Below w.heap.size w w'):Unch w w':=⟨h.size,h.block,h.os,h.output⟩
theorem ZSk {n:Int}{h:Heap}(hn:I64 n)(hL:WkLib h):Sv Tryz.prog 80 [i64 n] h (RetP fun v h'=>v=str (Lib.itoa n)/\h'=h):=by
 refine⟨fun ι w args' hr hv=>?_⟩;have ha:args'.toList=[i64 n]:=hv.flat_eq rfl;have ha':args'=#[i64 n]:=by rw[<-Array.toArray_toList (xs:=args'),ha]
 subst ha'
 refine (Any.strconv_Itoa { ZEO with } n hn.1 (by have:=hn.2;omega) w (hL.w hr).pow).mono ?_
 rintro e w' ⟨rfl,k,os,rfl⟩;exact⟨.ret (str (Lib.itoa n)) h,⟨rfl,rfl⟩,ZHu hr (VR.of_flat ι rfl) (ZNu w k os)⟩
theorem ZJ2 {ι:Iota}{h:Heap}{w w':World}{v v':Value}(N:Nat)(hr:HR ι h w.heap)(hgl:h.gl≠0)(u:Unch w w')(hv:∀ι':Iota,Sub ι ι'->ι' h.nx=some ⟨N,0,0⟩->VR ι' v v'):ZEk ι h w (.ret v (rsv h)) (.returned v') w':=by
 have hsub:=hr.sub_upd ⟨N,0,0⟩;have hr2:=u.hr hr;refine⟨Dx.upd ι h.nx ⟨N,0,0⟩,v',rfl,hv _ hsub (Dx.upd_same _ _ _),⟨?_,?_,?_,?_,?_⟩,?_⟩
 ·intro b o hb
  obtain⟨bi,o',e1,e2,e3⟩:=hr2.obj b o hb;exact⟨bi,o',hsub _ _ e1,e2,e3.mono hsub⟩
 ·intro b b' o o' bi bi' g1 g2 i1 i2 e
  have l1:∀c x,h.get c=some x->∀y,Dx.upd ι h.nx ⟨N,0,0⟩ c=some y->ι c=some y:=by
   intro c x hc y hy;obtain⟨bi,o',e1,e2,e3⟩:=hr2.obj c x hc;have:=hsub _ _ e1;rw[this] at hy;cases hy;exact e1
  exact hr2.inj b b' o o' bi bi' g1 g2 (l1 _ _ g1 _ i1) (l1 _ _ g2 _ i2) e
 ·intro b bi hb
  show b<h.nx+1
  by_cases e:b=h.nx
  ·omega
  ·rw[Dx.upd_other _ _ e] at hb
   have:=hr.fresh _ _ hb;omega
 ·intro g bi hg hb
  have hg':g<h.gl:=hg;have:=hr.gn;rw[Dx.upd_other _ _ (by omega)] at hb;exact hr.glo g bi hg' hb
 ·show h.gl<=h.nx+1
  have:=hr.gn;omega
 ·refine⟨hsub,u.sz,fun c hc _=>u.same c hc,fun c ⟨b,o,bi,g1,g2,g3⟩ _=>?_,Nat.le_succ _,fun b hb=>Dx.upd_other _ _ (by omega),rfl,u.os,u.out,fun e=>absurd e hgl⟩
  obtain⟨bi2,o',e1,e2,e3⟩:=hr2.obj b o g1;have:=hsub _ _ e1;rw[g2] at this;cases this;exact⟨b,o,_,g1,e1,g3⟩
theorem ZK7 {ι:Iota}{h:Heap}{w w':World}{v v':Value}(hr:HR ι h w.heap)(hgl:h.gl≠0)(hv:VR ι v v')(u:Unch w w'):ZEk ι h w (.ret v h) (.returned v') w' :=
 ⟨ι,v',rfl,hv,u.hr hr,.refl _,u.sz,fun c hc _=>u.same c hc,fun _ hr _=>hr,Nat.le_refl _,fun _ _=>rfl,rfl,u.os,u.out,fun e=>absurd e hgl⟩
def ZUf (s:List UInt8)(h:Heap)(v:Value)(h':Heap):Prop :=
 Ext h h'/\((∃n,Lib.atoiAll s=.ok n/\v=.tuple ⟨[i64 n,.nilIface]⟩)\/((∀n,Lib.atoiAll s≠.ok n)/\∃n t b,v=.tuple ⟨[i64 n,.iface t (.pointer (some ⟨b,0,none⟩))]⟩))
theorem ZTG {s:List UInt8}{h:Heap}(hs:s.length<=281474976710656)(hL:WkLib h):Sv Tryz.prog 55 [str s] h (RetP (ZUf s h)):=by
 refine⟨fun ι w args' hr hv=>?_⟩;have ha:args'.toList=[str s]:=hv.flat_eq rfl;have ha':args'=#[str s]:=by rw[<-Array.toArray_toList (xs:=args'),ha]
 subst ha';have hw:=hL.w hr;have hgl:=hL.gl;have hsz:(⟨⟨s⟩⟩:ByteArray).size<=281474976710656:=hs
 cases hq:Lib.atoiAll s with
 | ok n =>
  refine (Any.strconv_Atoi_ok ZEO ⟨⟨s⟩⟩ (by omega) n hq w).mono ?_;rintro e w' ⟨rfl,hw'⟩;refine⟨.ret (.tuple ⟨[i64 n,.nilIface]⟩) h,⟨Ext.refl _,.inl ⟨n,hq,rfl⟩⟩,ZK7 hr hgl (VR.of_flat ι rfl) ?_⟩
  rcases hw' with rfl|⟨t,rfl⟩
  ·exact⟨Nat.le_refl _,fun _ _=>rfl,rfl,rfl⟩
  ·exact ZFe (Lib.bytesWorld_below w _ t)
 | range =>
  obtain⟨tp,p,hvar⟩:=hw.er;refine (Any.strconv_Atoi_range_var ZEO ⟨⟨s⟩⟩ hsz hq tp p w hvar).mono ?_;rintro e w' ⟨N,rfl,hN,-,hB⟩;refine⟨.ret (.tuple ⟨[i64 (Lib.atoiSat s),.iface (ZEv.t 168) (.pointer (some ⟨h.nx,0,none⟩))]⟩) (rsv h),⟨Ext.rsv h,.inr ⟨fun n hn=>by rw[hq] at hn;(cases hn),_,_,_,rfl⟩⟩,ZJ2 N hr hgl ?_ ?_⟩
  ·exact ZFe hB
  ·intro ι' hs' hi
   exact VR.tup (.cons (.int _ _) (.cons (.iface _ (VR.ptr (bi:=⟨N,0,0⟩) hi)) .nil))
 | _ =>
  obtain⟨tp,p,hvar⟩:=hw.es;refine (Any.strconv_Atoi_syntax_var ZEO ⟨⟨s⟩⟩ hsz hq tp p w hvar).mono ?_;rintro e w' ⟨N,rfl,hN,-,hB⟩;refine⟨.ret (.tuple ⟨[i64 0,.iface (ZEv.t 168) (.pointer (some ⟨h.nx,0,none⟩))]⟩) (rsv h),⟨Ext.rsv h,.inr ⟨fun n hn=>by rw[hq] at hn;(cases hn),0,_,_,rfl⟩⟩,ZJ2 N hr hgl ?_ ?_⟩
  ·exact ZFe hB
  ·intro ι' hs' hi
   exact VR.tup (.cons (.int _ _) (.cons (.iface _ (VR.ptr (bi:=⟨N,0,0⟩) hi)) .nil))
end Go.Dw
