/- VF: TopCarded. -/
import Derived.Test.YtphonfljfmedgaaGreatDoorAG2
import Derived.Test.YtphonfljfmedgaaGreatDoorAG21
import Derived.Test.YtphonfljfmedgaaGreatDoorAVG
set_option linter.unusedVariables false
set_option linter.unusedSimpArgs false
namespace Go.Dw
open Go Go.Dx Go.Proofs
set_option maxRecDepth 100000
abbrev xVF3:List Nat:=[0,1,0,7,15,31,0,64,192,511,1023,2047,4095,8191,16383,32767]
abbrev xVF4:List Nat:=[0,1,2,3,4,5,6,7,8,9,10,11,12,13,14,15]
abbrev xVF8:List Nat:=[0,1,2,3,4,5,6,7]
theorem ZR6 {P:Program}{m:Mem}{h:Heap}{d:Option Tmp}{ty:TypeId}{pos:String}{af:Array Edge}{gu:Option (Nat×Bool)}{t tz:TypeId}{x y:Operand}{a b:Nat}{z:Int}(hx:opk h m x=some (i64 (a:Nat)))(hy:opk h m y=some (i64 z))(hz:z=(b:Nat))(hb:0<b):Aop P ⟨d,.binOp .rem t x y tz,ty,pos,af,gu⟩ m h (i64 ((a % b:Nat):Int)) h:=by
 subst hz;have e:((a % b:Nat):Int)=((a:Nat):Int).tmod ((b:Nat):Int):=rfl;rw[e];exact ZUd hx hy (by omega)
abbrev notT:TypeId:=46
abbrev lstT:TypeId:=29
abbrev bnT:TypeId:=31
theorem ZSR {P:Program}{m:Mem}{h:Heap}{d:Option Tmp}{ty:TypeId}{pos:String}{af:Array Edge}{gu:Option (Nat×Bool)}{t el:TypeId}{x i:Operand}{b o len cap k sz:Nat}{kj:IntKind}(ht:P.underlying t=some (.slice el))(hz:tsz P el=some sz)(hk:k<=len)(hc:k<cap)(hx:opk h m x=some (.slice (some ⟨b,o,none⟩) len cap))(hi:opk h m i=some (.int kj (k:Int))) :
  Aop P ⟨d,.slice t x (some i) none none,ty,pos,af,gu⟩ m h (.slice (some ⟨b,o+k*sz,none⟩) (len-k) (cap-k)) h:=by
 have:=ZGu (d:=d) (ty:=ty) (pos:=pos) (af:=af) (gu:=gu) ht hz hk hx hi;rw[if_neg (by omega)] at this;exact this
abbrev ZE5 (t:Tk)(am:Option Addr)(cm:Nat)(as':Option Addr)(cs:Nat)(al:Option Addr)(cl:Nat)(v:Value):List Value:=[str t.r.name,i64 t.r.gauge,i64 t.r.base,i64 t.r.frames,i64 t.r.ylo,i64 t.r.yhi,i64 t.r.keep,.slice am t.r.marks.length cm,.slice as' t.r.syms.length cs,.slice al t.r.lens.length cl,i64 t.wlo,i64 t.whi,v]
abbrev zTk:List Value:=[str [],i64 0,i64 0,i64 0,i64 0,i64 0,i64 0,.slice none 0 0,.slice none 0 0,.slice none 0 0,i64 0,i64 0,.slice none 0 0]
theorem ZSJ {L M:List (List Nt)}(hp:M.Perm L)(hLL:Len L)(hf:∀l∈L,Len l/\∀x∈l,x.Fit):Len M/\(∀l∈M,Len l)/\∀l∈M,∀x∈l,x.Fit:=⟨by unfold Len at *;rw[hp.length_eq];exact hLL,fun l hl=>(hf l (hp.mem_iff.1 hl)).1,fun l hl=>(hf l (hp.mem_iff.1 hl)).2⟩
set_option maxHeartbeats 16000000 in
theorem ZKJ {t:Tk}{d:Ads}{a:Option Addr}{c:Nat}{L:List (List Nt)}{x y:Int}{h:Heap}(hF:t.Fit)(hR:TkAt h t d)(hL:ZAV 1 CatR h a L)(hLa:L≠[]->∃b o,a=some ⟨b,o,none⟩)(hLc:L.length<=c)(hLL:Len L)(hf:∀l∈L,Len l/\∀x∈l,x.Fit)(hW:WkLib h)(hx:0<=x/\x<65536)(hy:0<=y/\y<65536) :
  Sv Tryz.prog 3 [.agg ⟨ZD9 t d⟩,.slice a L.length c,.agg ⟨[.int .u16 x,.int .u16 y]⟩] h (RetP fun v h'=>v=.bool true/\Ext h h'):=by
 refine ZA0 fun hw=>?_;obtain⟨am,cm,as',cs,al,cl,an,cn⟩:=d;obtain⟨xn,rfl⟩:=Int.eq_ofNat_of_zero_le hx.1;obtain⟨yn,rfl⟩:=Int.eq_ofNat_of_zero_le hy.1;have hwx:IntKind.i64.wrap (xn:Int)=(xn:Int):=IntWalk.i64_in _ (by omega);have hwy:IntKind.i64.wrap (yn:Int)=(yn:Int):=IntWalk.i64_in _ (by omega);refine ZAF Tryz.func3 rfl (by rw[Tryz.ntmps3];rfl) ?_;show Wc Tryz.prog ⟨3,235,none⟩ _ _ _ _ _;refine zy ?_;refine ZAv rfl rfl rfl fun h1 hE1 hW1 hg1 hn1=>?_;refine zy ?_;refine ZAv rfl rfl rfl fun h2 hE2 hW2 hg2 hn2=>?_;have k2:=hE2.get hg1;replace hE2:=hE1.trans hE2;generalize h.nx=b3 at k2;generalize h1.nx=b5 at hg2
 refine zy ?_;refine zR (ZQ8 (hR.r.ext hE2) hF.r (hW.ext hE2)) ?_;rintro _ h3 ⟨rfl,hE3⟩;refine zy ?_;refine zR (ZQa (hW.ext (hE2.trans hE3))) ?_;rintro _ h4 ⟨hE4,r',am2,cm2,as2,cs2,al2,cl2,e,rfl,hrd⟩;refine ZA4 fun hW4=>?_;refine zy ?_;refine ZAH rfl rfl Zr.h Tsz.h rfl (fun _=>rfl) rfl rfl rfl fun h5 hE5 hW5 hg5 hn5=>?_;have hE35:=hE3.trans (hE4.trans hE5);have k5:=hE35.get k2;have j5:=hE35.get hg2;have hE5':=hE2.trans hE35;have hL5:=ZAV.ext (R:=CatR) (fun hr hE=>CatR.ext hr hE) hL hE5';generalize h4.nx=b9 at hg5 ⊢;refine zy ?_;refine zR (ZI7 hL5 hLL (fun l hl=>(hf l hl).1) (fun l hl=>(hf l hl).2)) ?_
 rintro _ h6 ⟨hE6,s,rfl,hs0,hs1⟩;have hE6':=hE5'.trans hE6;refine zy ?_
 by_cases he:ZBc t.r=0
 rotate_left
 ·refine zD (A_tt he (ZA3 rfl rfl)) ?_
  refine zD (A_ff he (ZBA rfl rfl)) ?_;refine zD (A_tt (show ZIP t.r=[] by unfold ZIP;rw[if_neg he]) (ZBO rfl rfl)) ?_;refine zW (ZFN _) fun h7 hE7=>?_;refine zy ?_;exact ZAB (ZAC rfl ⟨rfl,hE6'.trans hE7⟩)
 obtain⟨rfl,rfl,hRl⟩:=hrd he;refine zD (A_ff (fun q=>q he) (ZA3 rfl rfl)) ?_
 by_cases hm:ZBN L=0
 rotate_left
 ·refine zD (A_tt hm (ZA3 rfl rfl)) ?_
  refine zD (A_tt he (ZBA rfl rfl)) ?_;refine zW (ZFN _) fun h7 hE7=>?_;refine zy ?_;exact ZAB (ZAC rfl ⟨rfl,hE6'.trans hE7⟩)
 refine zD (A_ff (fun q=>q hm) (ZA3 rfl rfl)) ?_
 by_cases hL0:L.length=0
 ·refine zD (A_tt (by omega) (ZBA rfl rfl)) ?_
  refine zD (A_tt he (ZBA rfl rfl)) ?_;refine zW (ZFN _) fun h7 hE7=>?_;refine zy ?_;exact ZAB (ZAC rfl ⟨rfl,hE6'.trans hE7⟩)
 refine zE (A_ff (by omega) (ZBA rfl rfl)) ?_;obtain⟨b,o,rfl⟩:=hLa fun q=>hL0 (by rw[q];rfl);have hok:=ZId he;obtain⟨z1,z2,z3⟩:=ZIU hm;replace hs1:=hs1 hm;clear hs0 hrd;obtain⟨aS,rfl,hS6,-⟩:=ZAE.rowsAt (enc:=rowN) (k:=8) (fun _=>rfl) hs1 rfl;have k6:=hE6.get k5;have j6:=hE6.get j5;have g6:=hE6.get hg5;have hE46:=hE5.trans hE6;have hRl6:=hRl.ext hE46;have hR6:=hR.r.ext hE6';obtain⟨k,hk⟩:∃k,k=xn % L.length:=⟨_,rfl⟩;have hkn:k<L.length:=by rw[hk];exact Nat.mod_lt _ (by omega)
 obtain⟨D,hDL,hDT,hDC⟩:=ZOS (ZAV.ext (R:=CatR) (fun hr hE=>CatR.ext hr hE) hL hE6');have hDl:D.length=L.length:=by rw[<-hDL,List.length_map]
 have hrt:=ZS9 hDT (show k<D.length by omega);have hrm:=ZP2 k hm;refine ZA4 fun hw6=>?_;clear hE5 hE6 k5 j5 hg5 hRl hL5 hE35 k2 hg2 hE2 hE3 hE4 hs1 hg1 hE1 hW1 hW2 hW4 hW5;refine zy ?_;refine zD (ZEY (k:=0) Und.h Tsz.h rfl rfl rfl (by decide)) ?_;refine zD (ZNv ⟨_,Und.h⟩ Und.h rfl hwx) ?_;refine zE (ZR6 (a:=xn) (b:=L.length) rfl rfl rfl (by omega)) ?_;rw[<-hk];have hEa:Ext h6 (h6.add (.cells [] lstT false)):=Ext.add hw6 _;have hOa:Own h6 (h6.add (.cells [] lstT false)) [slI h6 (.slice (some ⟨h6.nx,0,none⟩) 0 0) lstT 1 [] 0]:=(Own.nil h6 h6).newSl hw6 (Nat.le_refl _) hEa (ZAE.lit Heap.get_add_same rfl (Nat.le_refl _))
 have hz1:∀{h'},Ext h6 h'->asrc Tryz.prog lstT 1 32 (.slice (some ⟨b,o+k*1,none⟩) (L.length-k) (c-k)) h'=some (L.length-k,(D.drop k).flatMap vRow):=fun hE=>by
  have:=SrcK.src (P:=Tryz.prog) (enc:=vRow) (k:=1) (cap:=c-k) (dd:=.slice lstT) (by decide) (fun _=>rfl) (hrt.1.ext hE) Und.h (by intro k;simp) (tX:=32) (el:=lstT);rw[List.length_drop,hDl] at this;exact this
 have hz2:∀{h'},Ext h6 h'->asrc Tryz.prog lstT 1 32 (.slice (some ⟨b,o,none⟩) k c) h'=some (k,(D.take k).flatMap vRow):=fun hE=>by
  have:=SrcK.src (P:=Tryz.prog) (enc:=vRow) (k:=1) (cap:=c) (dd:=.slice lstT) (by decide) (fun _=>rfl) (hrt.2.ext hE) Und.h (by intro k;simp) (tX:=32) (el:=lstT);rw[List.length_take,hDl,Nat.min_eq_left (by omega)] at this;exact this
 have hc1:allOne ((D.drop k).flatMap vRow)=true:=ZLC fun d hd=>hDC d (List.drop_subset _ _ hd);have hc2:allOne ((D.take k).flatMap vRow)=true:=ZLC fun d hd=>hDC d (List.take_subset _ _ hd);refine zy ?_;refine ZAR hmix [0,0,0,6,15,0,0,96,255,511,1023,2047,2047,4095,16383] [0,1,2,3,5,6,7] (some 4) [([],(some 8)),([],(some 9)),([10,11,12],(some 13)),([],(some 14)),([],none)] (by kernel_rfl) (by kernel_rfl) ?_;refine ZBS (nk:=.sl _ _) rfl rfl rfl rfl rfl (fun _ _ hs=>N_bs hs Und.h Tsz.h Zr.h rfl rfl rfl rfl rfl) ?_;refine z_m ?_;refine z_m ?_;refine ZAI rfl rfl rfl rfl rfl (fun _=>ZSR (k:=k) Und.h Tsz.h (by omega) (by omega) rfl rfl) ?_;refine z_m ?_;refine z_m ?_;refine ZAI rfl rfl rfl rfl rfl (fun _=>ZFC (k:=k) Und.h Tsz.h rfl rfl rfl (by omega)) ?_
 refine ZAM (h1:=(Heap.add h6 _)) [0,1,2,3] (by kernel_rfl) rfl (ZAA rfl) rfl rfl rfl (ZAT (ZBG (by':=24) (sz:=1) (k:=L.length-k) (n:=0) (l:=(D.drop k).flatMap vRow) rfl hw6 hEa rfl rfl rfl rfl Und.h inferInstance rfl rfl hOa (hz1 hEa) (by rw[ZBB (enc:=vRow) (k:=1) (fun _=>rfl),List.length_drop,hDl]) hc1 (by omega) (by omega) (fun v7 h7 hO7 hE7 hw7=>?_)));rw[List.nil_append,Nat.zero_add] at hO7;refine ZAM (h1:=h7) xVF8 (by kernel_rfl) rfl (by refine ZAQ (i:=7) rfl rfl rfl rfl rfl (fun _=>ZFC (k:=k) Und.h Tsz.h rfl rfl rfl (by omega)) rfl ?_;refine t_m 6 ?_;refine t_m 5 ?_;exact ZAA rfl) rfl rfl rfl (ZAT (ZBG (by':=24) (sz:=1) (k:=k) (n:=L.length-k) (l:=(D.take k).flatMap vRow) rfl hw6 hE7 rfl rfl rfl rfl Und.h inferInstance rfl rfl hO7 (hz2 hE7) (by rw[ZBB (enc:=vRow) (k:=1) (fun _=>rfl),List.length_take,hDl,Nat.min_eq_left (by omega)]) hc2 (by omega) (by omega) (fun v8 h8 hO8 hE8 hw8=>?_)))
 have hl8:(D.drop k++D.take k).length=L.length-k+k:=by rw[List.length_append,List.length_drop,List.length_take,hDl];omega
 have hl8':(L.drop k++L.take k).length=L.length-k+k:=by rw[List.length_append,List.length_drop,List.length_take];omega
 have hF8:ZAE h6 h8 v8 lstT 1 ((D.drop k++D.take k).flatMap vRow) (D.drop k++D.take k).length:=by rw[List.flatMap_append,hl8];exact hO8.p1
 obtain⟨a8,e8,hS8,-⟩:=ZAE.rowsAt (enc:=vRow) (k:=1) (fun _=>rfl) hF8 rfl;rw[hl8,<-hl8'] at e8;have hL8:ZAV 1 CatR h8 a8 (L.drop k++L.take k):=by
  have:=ZOw hS8.1 fun d hd=>(hDC d ((ZSV k).1 hd)).ext hE8;rw[List.map_append,List.map_drop,List.map_take,hDL] at this;exact this
 obtain⟨hp1,hp2,hp3⟩:=ZSJ (ZMn k) hLL hf;have hM8:=ZI7 (c:=(L.drop k++L.take k).length) hL8 hp1 hp2 hp3;rw[hrm.1,hrm.2] at hM8;subst e8;refine ZAM (h1:=h8) [0,1,2,3,4,5,6,7,8] (by kernel_rfl) rfl (ZAA rfl) rfl rfl rfl (ZAT (ZAg rfl rfl rfl rfl rfl Bod.h hM8 (fun v9 h9 hv hw9=>?_)));obtain⟨hE9,s2,rfl,-,hs2⟩:=hv;replace hs2:=hs2 rfl;refine z_m ?_;refine z_e ?_;refine z_e ?_;refine ZAM [0,1,2,3,4,5,6,7,8,9,10,11] (by kernel_rfl) rfl (ZAA rfl) rfl nb rfl (ZBm rfl rfl (ZAY rfl) ?_);refine ZAM [0,1,2,3,4,5,6,7,8,9,10,11,12,13] (by kernel_rfl) rfl (by refine t_e 12 ?_;exact ZAA rfl) rfl nb rfl (ZBm rfl rfl (ZAY rfl) ?_)
 refine ZAc (ZAA rfl) rfl ?_;obtain⟨aT,rfl,hS9,-⟩:=ZAE.rowsAt (enc:=rowN) (k:=8) (fun _=>rfl) hs2 rfl;replace hE9:=hE8.trans hE9;have hRl9:=hRl6.ext hE9;have hR9:=hR6.ext hE9;have k9:=hE9.get k6;have j9:=hE9.get j6;have g9:=hE9.get g6;have hSa9:=TabA.ext' hS6.1 hE9;have hL9:=ZAV.ext (R:=CatR) (fun hr hE=>CatR.ext hr hE) hL (hE6'.trans hE9);have hE9':=hE6'.trans hE9;generalize hSS:ZAO L.flatten=S at *;clear hs2 hM8 hE8 hS8 hF8 hO8 hO7 hE7 hz1 hz2 hEa hOa hR6 hRl6 k6 j6 g6 hE9 hE6' hw6 hw7 hw8 hrt hDT hDC hDL hDl hc1 hc2 hL8 hL hS6 hl8 hl8';refine zy ?_;refine zD (A_ff (fun q=>q rfl) (ZA3 rfl rfl)) ?_
 refine zD (A_ff (fun q=>q rfl) (ZA3 rfl rfl)) ?_;refine zW (ZLV hRl9 hR9 hok) fun hA hEA=>?_;refine zy ?_;refine zU (ZJg (TabA.ext' hSa9 hEA) (TabA.ext' hS9.1 hEA) (by omega)) ?_;have hRlA:=hRl9.ext hEA;have hRA:=hR9.ext hEA;have kA:=hEA.get k9;have jA:=hEA.get j9;have gA:=hEA.get g9;have hSaA:=TabA.ext' hSa9 hEA;have hStA:=TabA.ext' hS9.1 hEA;have hLA:=ZAV.ext (R:=CatR) (fun hr hE=>CatR.ext hr hE) hL9 hEA;have hEA':=hE9'.trans hEA;clear hRl9 hR9 k9 j9 g9 hSa9 hS9 hL9 hE9' hEA hw9;refine zy ?_;refine ZBg fun hwA=>?_;have hEa:=Ext.add hwA (.cells zTk bnT false);have hEb:=hEa.trans (Ext.add (hwA.add _) (.cells zTk bnT false))
 have ga:((hA.add (.cells zTk bnT false)).add (.cells zTk bnT false)).get hA.nx=some (.cells zTk bnT false):=(Ext.add (hwA.add _) _).get Heap.get_add_same;have gb:((hA.add (.cells zTk bnT false)).add (.cells zTk bnT false)).get (hA.nx+1)=some (.cells zTk bnT false):=Heap.get_add_same;have k1a:=hEb.get kA;refine ZAR hmix [0,0,0,0,13,31] [0,1,2,3] (some 4) [([],(some 5)),([],none)] (by kernel_rfl) (by kernel_rfl) ?_;refine z_r ?_;refine z_r ?_;refine ZBS (nk:=.ptr) rfl rfl rfl rfl rfl (fun _ _ _=>ZG6 Zr.h) ?_;refine ZBS (nk:=.ptr) rfl rfl rfl rfl rfl (fun _ _ _=>ZG6 Zr.h) ?_;refine ZAM (h1:=(Heap.add (Heap.add hA _) _)) [0,2,3] (by kernel_rfl) rfl (ZAA rfl) rfl rfl rfl (ZAT (ZCW rfl rfl Tsz.h rfl rfl ga rfl rfl rfl (fun h6 hU6 hW6=>?_)))
 have hE6:=hU6.ext hEb hwA (Nat.le_refl _);have gb6:=hU6.get (show hA.nx+1≠hA.nx by omega) gb;have k16:=hE6.get kA;refine ZAM (h1:=h6) [0,1,2,3,4] (by kernel_rfl) rfl (by refine t_r 1 ?_;exact ZAA rfl) rfl rfl rfl (ZAT (ZCW rfl rfl Tsz.h rfl rfl gb6 rfl rfl rfl (fun h7 hU7 hw7=>?_)));have hE7:=hU7.ext hE6 hwA (Nat.le_succ _);refine ZAc (h1:=h7) (ZAA rfl) rfl ?_;have gU:=hU7.get (show hA.nx≠hA.nx+1 by omega) hU6.at';have gV:=hU7.at';have hO7:Own hA h7 [ceI (hA.nx+1) (ZE5 t am cm as' cs al cl (.slice an t.notes.length cn)) bnT false,ceI hA.nx (ZE5 t am cm as' cs al cl (.slice an t.notes.length cn)) bnT false]:=by
  refine Own.add1 (Own.add1 (Own.nil hA h7) (y:=ceI hA.nx _ _ false) gU (fun c hc=>by rw[show c=hA.nx from hc];exact Nat.le_refl _) (fun x hx=>nomatch hx)) gV (fun c hc=>by rw[show c=hA.nx+1 from hc];exact Nat.le_succ _) (fun x hx c hc hyc=>?_);rw[List.mem_singleton.1 hx] at hc;have e1:c=hA.nx:=hc;have e2:c=hA.nx+1:=hyc;omega
 clear gU gV hU6 hU7 hW6 gb6 k16 k1a ga gb hEa hEb hE6;generalize hA.nx=ba at hO7 ⊢;have g7:=hE7.get gA;refine zy ?_;refine ZAR hmix [0,0,0,4,13,29,63,127] [0,1,2] (some 3) [([4],(some 5)),([6],(some 7)),([],none)] (by kernel_rfl) (by kernel_rfl) ?_;refine z_m ?_;refine z_r ?_;refine z_f ?_;refine ZAM [2] (by kernel_rfl) rfl (ZAA rfl) rfl nb rfl (ZAT (ZAz (r:=ZE5 t am cm as' cs al cl (.slice none 0 0)) rfl hwA hE7 rfl Tsz.h rfl rfl hO7.up2 rfl rfl rfl (fun h8 hO8 hE8 hw8=>?_)));have g8:=hE8.get gA;refine z_f ?_;refine ZAM [0,2,3,4] (by kernel_rfl) rfl (by refine t_r 1 ?_;refine t_m 0 ?_;exact ZAA rfl) rfl nb rfl (ZAT (ZAz (r:=ZE5 t am cm as' cs al cl (.slice aT S.length S.length)) rfl hwA hE8 rfl Tsz.h rfl rfl hO8.up2 rfl rfl rfl (fun h9 hO9 hE9 hw9=>?_)))
 have g9:=hE9.get gA;refine z_f ?_;refine ZAM [0,1,2,3,4,5,6] (by kernel_rfl) rfl (by refine t_r 1 ?_;exact ZAA rfl) rfl nb rfl (ZAT (ZAz (r:=ZE5 t am2 cm2 as2 cs2 al2 cl2 (.slice aT S.length S.length)) rfl hwA hE9 rfl Tsz.h rfl rfl hO9 rfl rfl rfl (fun h10 hO10 hE10 hw10=>?_)));refine ZAc (ZAA rfl) nb' ?_;clear g7 g8 g9 hO7 hO8 hO9 hE7 hE8 hE9 hw7 hw8 hw9;have hmx:=ZPN (L:=L) (fun l hl=>(z2 l hl).1);refine zy ?_;refine ZAS (fun (st:Nat×Value) m ds h'=>ds=[]/\Ext hA h'/\st.1<=L.length/\Own hA h' [slI hA st.2 notT 8 ((L.take st.1).flatten.flatMap rowN) (L.take st.1).flatten.length,ceI ba (ZE5 t am cm as' cs al cl st.2) bnT false,ceI (ba+1) (ZE5 t am2 cm2 as2 cs2 al2 cl2 (.slice aT S.length S.length)) bnT false]/\AllK m [(1,.slice (some ⟨b,o,none⟩) L.length c),(3,.pointer (some ⟨b3,0,none⟩)),(5,.pointer (some ⟨b5,0,none⟩)),(11,.slice aS S.length S.length),(15,.pointer (some ⟨ba,0,none⟩)),(16,.pointer (some ⟨ba+1,0,none⟩)),(17,i64 (st.1:Nat))]) (fun st=>L.length-st.1) (0,.slice none 0 0) ?_ ?_
 ·exact⟨rfl,hE10,Nat.zero_le _,(hO10.nilSl notT 8).shuf (ceI 0 [] 0 false) [0,1,2] [0,2,1] (by decide) rfl,rfl,rfl,rfl,rfl,rfl,rfl,rfl,trivial⟩
 clear hO10 hE10 hw10;clear h10;rintro⟨i,v⟩ m ds h1 ⟨rfl,hE1,hi,hO1,hall⟩;refine Wc.le (ZBg fun hW1=>?_) (Le.kn hall);clear hall;simp only at hi hO1 ⊢;have gba:h1.get ba=some (.cells (ZE5 t am cm as' cs al cl v) bnT false):=hO1.p2;refine zy ?_;refine zC (ZAx rfl rfl) (fun hil=>?_) (fun hil=>?_)
 ·have hi':i<L.length:=by omega
  obtain⟨b',o',oa',e',row,hrow,ai,ci,er,hsi⟩:=hLA i hi';cases e';subst er;have hft:=ZLo hi';have hle:=ZOn (L:=L) i;have hli:=(z2 _ (List.getElem_mem hi')).1;generalize L[i]=li at *;have hcell:ZAi h1 b (o+i*1+0)=some (.slice ai li.length ci):=ZAr (k:=0) (hE1.row hrow) rfl;have hsrc:=SrcK.src (P:=Tryz.prog) (enc:=rowN) (k:=8) (cap:=ci) (dd:=.slice notT) (by decide) (fun _=>rfl) (hsi.ext hE1) Und.h (by intro k;simp) (tX:=lstT) (el:=notT);obtain⟨a',c',e2⟩:=ZAj hO1;subst e2;refine zy ?_;refine ZAR hmix [0,1,0,0,12,28,63,127,255] [0,1,2,3,4,5] (some 6) [([7],(some 8)),([],none)] (by kernel_rfl) (by kernel_rfl) ?_
  refine z_f ?_;refine z_l ?_;refine z_m ?_;refine z_m ?_;refine ZAI rfl rfl rfl rfl rfl (fun _=>ZAN (k:=i) Und.h Tsz.h rfl rfl rfl hi') ?_;refine z_l ?_;refine ZAM [0,1,2,3,4,5] (by kernel_rfl) rfl (ZAA rfl) rfl nb rfl (ZAT (ZBG (sz:=8) (k:=li.length) (n:=(L.take i).flatten.length) (l:=li.flatMap rowN) rfl hwA hE1 rfl rfl rfl rfl Und.h inferInstance rfl rfl hO1 hsrc (ZO1 _) (ZJY _) (by omega) (by omega) (fun v8 h8 hO8 hE8 hw8=>?_)));obtain⟨a8,c8,rfl⟩:=ZAj hO8;refine z_f ?_;refine ZAM xVF8 (by kernel_rfl) rfl (ZAA rfl) rfl nb rfl (ZAT (ZAz (r:=ZE5 t am cm as' cs al cl (.slice a8 ((L.take i).flatten.length+li.length) c8)) rfl hwA hE8 rfl Tsz.h rfl rfl hO8.up2 rfl rfl rfl (fun h9 hO9 hE9 hw9=>?_)))
  refine ZAc (ZAA rfl) nb' ?_;refine zy ?_;refine⟨(i+1,.slice a8 ((L.take i).flatten.length+li.length) c8),(by show L.length-(i+1)<L.length-i;omega),rfl,hE9,hi',?_,rfl,rfl,rfl,rfl,rfl,rfl,rfl,trivial⟩;simp only;rw[hft,List.flatMap_append,List.length_append];exact hO9.up2
 have hiL:i=L.length:=by omega
 rw[hiL,List.take_length] at hO1;clear hil hi hiL hLA gba;generalize hC:L.flatten=C at *;obtain⟨aC,rfl,hSC,-⟩:=ZAE.rowsAt (enc:=rowN) (k:=8) (fun _=>rfl) (show ZAE _ _ _ _ _ _ _ from hO1.p1) rfl;refine zy ?_;refine ZAS (fun (st:Nat×Bool) m ds h'=>ds=[]/\Ext hA h'/\Own hA h' [slI hA (.slice aC C.length C.length) notT 8 (C.flatMap rowN) C.length,ceI ba (ZE5 t am cm as' cs al cl (cond st.2 (.slice aS S.length S.length) (.slice aC C.length C.length))) bnT false,ceI (ba+1) (ZE5 t am2 cm2 as2 cs2 al2 cl2 (.slice aT S.length S.length)) bnT false]/\(st.2=false->∀j (hj:j<C.length),j<st.1->C[j].til<t.r.frames/\C.length<=60)/\AllK m [(1,.slice (some ⟨b,o,none⟩) L.length c),(3,.pointer (some ⟨b3,0,none⟩)),(5,.pointer (some ⟨b5,0,none⟩)),(11,.slice aS S.length S.length),(15,.pointer (some ⟨ba,0,none⟩)),(16,.pointer (some ⟨ba+1,0,none⟩)),(18,i64 (st.1:Nat))]) (fun st=>C.length+S.length-st.1) (0,false) ?_ ?_
 ·exact⟨rfl,hE1,hO1,(fun _ j _ hj=>absurd hj (Nat.not_lt_zero _)),rfl,rfl,rfl,rfl,rfl,rfl,rfl,trivial⟩
 clear hO1 hE1 hW1 hSC;clear h1;rintro⟨k2,bo⟩ m ds h1 ⟨rfl,hE1,hO1,hin,hall⟩;refine Wc.le (ZBg fun hW1=>?_) (Le.kn hall);clear hall;simp only at hO1 hin ⊢;obtain⟨aC',e',hSC,-⟩:=ZAE.rowsAt (enc:=rowN) (k:=8) (fun _=>rfl) (show ZAE _ _ _ _ _ _ _ from hO1.p1) rfl;cases e';obtain⟨N,aN,hN,hNv,hNT⟩:∃N aN,N=cond bo S C/\(cond bo (.slice aS S.length S.length) (.slice aC C.length C.length):Value)=.slice aN N.length N.length/\TabA rowN 8 h1 aN N:=by
  cases bo with
  | true=>exact⟨S,aS,rfl,rfl,TabA.ext' hSaA hE1⟩
  | false=>exact⟨C,aC,rfl,rfl,hSC.1⟩
 have hNl:N.length<=480:=by cases bo <;> simp only[cond] at hN <;> subst hN <;> omega
 rw[hNv] at hO1;have gba:h1.get ba=some (.cells (ZE5 t am cm as' cs al cl (.slice aN N.length N.length)) bnT false):=hO1.p2;have k1:=hE1.get kA;refine zy ?_;refine zC (ZAx rfl rfl) (fun hlt=>?_) (fun hlt=>?_)
 ·have hk':k2<N.length:=by omega
  obtain⟨bN,oN,oaN,rfl,row,hrow,hxr⟩:=hNT k2 hk';have hme:N[k2]∈N:=List.getElem_mem hk';have hkin:∀(e:bo=false) (hj:k2<C.length),C[k2]=N[k2]:=fun e hj=>by subst e;subst hN;rfl
  generalize N[k2]=xN at *;have e1:row=rowN xN:=hxr;subst e1;have hc5:ZAi h1 bN (oN+k2*8+5)=some (i64 xN.til):=ZAr (k:=5) hrow rfl;refine zy ?_
  by_cases hq:t.r.frames<=xN.til
  ·refine ZAR hmix xVF3 xVF4 none [] (by kernel_rfl) (by kernel_rfl) ?_
   refine z_f ?_;refine z_l ?_;refine z_m ?_;refine ZAI rfl rfl rfl rfl rfl (fun _=>ZAN (k:=k2) Und.h Tsz.h rfl rfl rfl hk') ?_;refine z_f ?_;refine z_l ?_;refine z_f ?_;refine z_f ?_;refine z_l ?_;refine ZAI rfl rfl rfl rfl rfl (fun _=>A_tt hq (ZHO rfl rfl)) ?_;refine z_m ?_;refine z_o ?_;refine z_o ?_;refine z_o ?_;refine z_o ?_;refine z_p ?_;refine ZAc (ZAA rfl) nb' ?_;refine zy ?_;refine ZAU (r:=ZE5 t am cm as' cs al cl (.slice aS S.length S.length)) hwA hE1 rfl Tsz.h rfl rfl hO1.up2 rfl rfl rfl fun h9 hW9 hO9 hE9=>?_;refine zy ?_;exact⟨(k2+1,true),(by show C.length+S.length-(k2+1)<C.length+S.length-k2;cases bo <;> simp only[cond] at hN <;> subst hN <;> omega),rfl,hE9,hO9.up2,(fun e=>nomatch e),rfl,rfl,rfl,rfl,rfl,rfl,rfl,trivial⟩
  by_cases hl6:(60:Int)<(N.length:Int)
  ·refine ZAR hmix xVF3 xVF4 none [] (by kernel_rfl) (by kernel_rfl) ?_
   refine z_f ?_;refine z_l ?_;refine z_m ?_;refine ZAI rfl rfl rfl rfl rfl (fun _=>ZAN (k:=k2) Und.h Tsz.h rfl rfl rfl hk') ?_;refine z_f ?_;refine z_l ?_;refine z_f ?_;refine z_f ?_;refine z_l ?_;refine ZAI rfl rfl rfl rfl rfl (fun _=>A_ff hq (ZHO rfl rfl)) ?_;refine z_m ?_;refine g_f ?_;refine g_l ?_;refine g_c ?_
   first|refine ZCI rfl rfl rfl rfl ?_|refine ZAI rfl rfl rfl rfl rfl (fun _=>A_tt hl6 (ZBw rfl rfl)) ?_
   refine z_p ?_;refine ZAc (ZAA rfl) nb' ?_;refine zy ?_;refine ZAU (r:=ZE5 t am cm as' cs al cl (.slice aS S.length S.length)) hwA hE1 rfl Tsz.h rfl rfl hO1.up2 rfl rfl rfl fun h9 hW9 hO9 hE9=>?_;refine zy ?_;exact⟨(k2+1,true),(by show C.length+S.length-(k2+1)<C.length+S.length-k2;cases bo <;> simp only[cond] at hN <;> subst hN <;> omega),rfl,hE9,hO9.up2,(fun e=>nomatch e),rfl,rfl,rfl,rfl,rfl,rfl,rfl,trivial⟩
  ·refine ZAR hmix xVF3 xVF4 none [] (by kernel_rfl) (by kernel_rfl) ?_
   refine z_f ?_;refine z_l ?_;refine z_m ?_;refine ZAI rfl rfl rfl rfl rfl (fun _=>ZAN (k:=k2) Und.h Tsz.h rfl rfl rfl hk') ?_;refine z_f ?_;refine z_l ?_;refine z_f ?_;refine z_f ?_;refine z_l ?_;refine ZAI rfl rfl rfl rfl rfl (fun _=>A_ff hq (ZHO rfl rfl)) ?_;refine z_m ?_;refine g_f ?_;refine g_l ?_;refine g_c ?_
   first|refine ZCI rfl rfl rfl rfl ?_|refine ZAI rfl rfl rfl rfl rfl (fun _=>A_ff hl6 (ZBw rfl rfl)) ?_
   refine z_p ?_;refine ZAc (ZAA rfl) nb' ?_;refine zy ?_;rw[<-hNv] at hO1;refine⟨(k2+1,bo),(by show C.length+S.length-(k2+1)<C.length+S.length-k2;cases bo <;> simp only[cond] at hN <;> subst hN <;> omega),rfl,hE1,hO1,fun e j hj hjk=>?_,rfl,rfl,rfl,rfl,rfl,rfl,rfl,trivial⟩
   have hCl:C.length<=60:=by
    have e2:bo=false:=e;subst e2;subst hN;omega
   by_cases hj2:j<k2
   ·exact⟨(hin e j hj hj2).1,hCl⟩
   ·have e3:j=k2:=by
     have:j<k2+1:=hjk;omega
    subst e3;rw[hkin e hj];exact⟨by omega,hCl⟩
 have hkN:N.length<=k2:=by omega
 have hzC:∀x∈C,ZA8 x=0:=fun x hx=>by
  rw[<-hC] at hx;obtain⟨l,hl,hxl⟩:=List.mem_flatten.1 hx;exact (z2 l hl).2 x hxl
 have hSC2:∀x∈S,x∈C:=fun x hx=>by
  rw[<-hSS] at hx;exact (ZBa.1 hx).1
 have hsm:ZDU ⟨t.r,t.wlo,t.whi,N⟩ ⟨t.r,t.wlo,t.whi,S⟩:=by
  cases bo with
  | true=>simp only[cond] at hN;subst hN;exact⟨rfl,rfl,rfl,rfl,rfl⟩
  | false =>
   simp only[cond] at hN;subst hN
   have hti:∀x∈N,x.til<t.r.frames:=fun x hx=>by
    obtain⟨j,hj,rfl⟩:=List.getElem_of_mem hx;exact (hin rfl j hj (by omega)).1
   refine ZDU.of (by rw[<-hSS,ZKz]) ?_ (by omega) (fun x hx=>⟨hzC x hx,hti x hx⟩) (fun x hx=>⟨hzC x (hSC2 x hx),hti x (hSC2 x hx)⟩)
   by_cases h0:N.length=0
   ·omega
   ·exact (hin rfl 0 (by omega) (by omega)).2
 have hfC:∀x∈C,x.Fit:=fun x hx=>by
  rw[<-hC] at hx;obtain⟨l,hl,hxl⟩:=List.mem_flatten.1 hx;exact (hf l hl).2 x hxl
 have hfN:∀x∈N,x.Fit:=fun x hx=>by
  cases bo <;> simp only[cond] at hN <;> subst hN
  ·exact hfC x hx
  ·exact hfC x (hSC2 x hx)
 have hFa:Tk.Fit ⟨t.r,t.wlo,t.whi,N⟩:=⟨hF.r,(show N.length<_ by omega),hfN⟩;have hFb:Tk.Fit ⟨t.r,t.wlo,t.whi,S⟩:=⟨hF.r,(show S.length<_ by omega),fun x hx=>hfC x (hSC2 x hx)⟩;have gbb:h1.get (ba+1)=some (.cells (ZE5 t am2 cm2 as2 cs2 al2 cl2 (.slice aT S.length S.length)) bnT false):=hO1.p3;have hTa:TkAt h1 ⟨t.r,t.wlo,t.whi,N⟩ ⟨am,cm,as',cs,al,cl,aN,N.length⟩:=⟨hRA.ext hE1,hNT⟩;have hTb:TkAt h1 ⟨t.r,t.wlo,t.whi,S⟩ ⟨am2,cm2,as2,cs2,al2,cl2,aT,S.length⟩:=⟨hRlA.ext hE1,TabA.ext' hStA hE1⟩;have j1:=hE1.get jA;have hE1':=hEA'.trans hE1;clear hO1 hSC hSaA hStA hRA hRlA hEA' hin hzC hSC2 hfC hfN kA jA gA hNv hmx hN hSS hC hlt hkN hrm z2 z1 hf hLL
 refine zy ?_;refine zR (ZIa hFa hTa) ?_;rintro _ h2 ⟨hE2,v1,v2,v3,rfl,⟨p1,q1,rfl,hG1⟩,⟨p2,q2,rfl,hG2⟩,hG3⟩;obtain⟨p3,rfl,-,hL3⟩:=ZAE.list (enc:=i64) hG3;have gba2:=hE2.get gba;have gbb2:=hE2.get gbb;have hTa2:=hTa.ext hE2;have hTb2:=hTb.ext hE2;have k2':=hE2.get k1;have j2:=hE2.get j1;have hE2':=hE1'.trans hE2;have hgb:=ZIa hFb hTb2;obtain⟨b1,b2,b3'⟩:=ZN8 ⟨t.r,t.wlo,t.whi,N⟩;rw[<-hsm.gaps] at hgb;generalize ZED ⟨t.r,t.wlo,t.whi,N⟩=GA at *;obtain⟨ga1,ga2,ga3,ga4⟩:=GA;simp only at hG1 hG2 hL3 hgb b1 b2 b3' ⊢;clear hG3 hE2 hTa hTb gba gbb k1 j1 hE1';refine zy ?_;refine ZA5 rfl rfl rfl rfl rfl Bod.h rfl rfl hgb ?_
 rintro _ h3 ⟨hE3,v1,v2,v3,rfl,⟨p1',q1',rfl,hG1'⟩,⟨p2',q2',rfl,hG2'⟩,hG3'⟩;obtain⟨p3',rfl,-,hL3'⟩:=ZAE.list (enc:=i64) hG3';have gba3:=hE3.get gba2;have gbb3:=hE3.get gbb2;have hTa3:=hTa2.ext hE3;have hTb3:=hTb2.ext hE3;have k3:=hE3.get k2';have j3:=hE3.get j2;have hE3':=hE2'.trans hE3;have hG1b:=hG1.ext' hE3;have hG2b:=hG2.ext' hE3;have hL3b:=hL3.ext hE3;clear hG3' hE3 hTa2 hTb2 gba2 gbb2 k2' j2 hE2' hG1 hG2 hL3 hgb;refine zy ?_;refine zV (ZHK hG1b hG1' b1) ?_;refine zV (ZHl hG2b hG2' b2) ?_;refine zV (ZKu hL3b hL3' b3') ?_;refine zE (A_ff (fun q=>q rfl) (ZA3 rfl rfl)) ?_;clear hG1b hG1' hG2b hG2' hL3b hL3'
 have hfr:=hok.frames;obtain⟨n,hn⟩:∃n:Nat,t.r.frames=n:=⟨t.r.frames.toNat,by omega⟩;refine zy ?_;refine zD (ZEY (k:=1) Und.h Tsz.h rfl rfl rfl (by decide)) ?_;refine zD (ZNv ⟨_,Und.h⟩ Und.h rfl hwy) ?_;refine zD (ZSa rfl rfl) ?_;refine zD (ZUD rfl rfl) ?_;refine zE (ZR6 (a:=yn) (b:=n) rfl rfl (by omega) (by omega)) ?_;obtain⟨f,hf'⟩:∃f:Int,f=((yn % n:Nat):Int):=⟨_,rfl⟩;rw[<-hf'];refine zy ?_;refine zR (ZFW (f:=f) hFa hTa3) ?_;rintro _ h4 ⟨hE4,rfl⟩;have gba4:=hE4.get gba3;have gbb4:=hE4.get gbb3;have hTa4:=hTa3.ext hE4;have hTb4:=hTb3.ext hE4;have hE4':=hE3'.trans hE4;clear hE4 gba3 gbb3 hTa3 hTb3 hE3'
 rw[hsm.place f];generalize hPL:ZCp ⟨t.r,t.wlo,t.whi,S⟩ f=PL;obtain⟨⟨pp,pq⟩,pe⟩:=PL;simp only;refine ZA4 fun hW4=>?_;refine zy ?_;refine ZAH rfl rfl Zr.h Tsz.h rfl (fun _=>rfl) rfl rfl rfl fun h5 hE5 hW5 hg5 hn5=>?_;have gbb5:=hE5.get gbb4;have gba5:=hE5.get gba4;have hTa5:=hTa4.ext hE5;have hTb5:=hTb4.ext hE5;have hE5':=hE4'.trans hE5;clear hE5 gba4 gbb4 hTa4 hTb4 hE4';have hplb:=ZFW (f:=f) hFb hTb5;rw[hPL] at hplb;refine zy ?_;refine ZA5 rfl rfl rfl rfl rfl Bod.h rfl rfl hplb ?_;rintro _ h6 ⟨hE6,rfl⟩;have gbb6:=hE6.get gbb5;have gba6:=hE6.get gba5;have g56:=hE6.get hg5;have hTa6:=hTa5.ext hE6
 have hTb6:=hTb5.ext hE6;have hE6':=hE5'.trans hE6;simp only;refine ZA4 fun hW6=>?_;clear hE6 gba5 gbb5 hTa5 hTb5 hE5' hplb hPL hg5;refine zy ?_;refine ZAH rfl rfl Zr.h Tsz.h rfl (fun _=>rfl) rfl rfl rfl fun h7 hE7 hW7 hg7 hn7=>?_;have gbb7:=hE7.get gbb6;have gba7:=hE7.get gba6;have g57:=hE7.get g56;have hTa7:=hTa6.ext hE7;have hTb7:=hTb6.ext hE7;have hE7':=hE6'.trans hE7;clear hE7 gba6 gbb6 hTa6 hTb6 hE6' g56;refine zy ?_;refine zD (ZCD (by kernel_rfl) rfl (ZGR pp pq) rfl rfl) ?_;refine zD (A_ff (fun q=>q rfl) (ZA3 rfl rfl)) ?_;refine zR (ZIW hFa hTa7) ?_;rintro _ h8 ⟨hE8,p8,q8,rfl,hP8⟩;have gbb8:=hE8.get gbb7
 have hTb8:=hTb7.ext hE8;have hE8':=hE7'.trans hE8;have hpb:=ZIW hFb hTb8;have hpl:(if ZAl ⟨t.r,t.wlo,t.whi,N⟩=0 then pcT ⟨t.r,t.wlo,t.whi,N⟩ else []).length<=100000000:=by
  by_cases hz:ZAl ⟨t.r,t.wlo,t.whi,N⟩=0
  ·rw[if_pos hz]
   have:=ZI9 (ZCQ hz);omega
  ·rw[if_neg hz];exact Nat.zero_le _
 rw[<-hsm.e,<-hsm.pc] at hpb;generalize (if ZAl ⟨t.r,t.wlo,t.whi,N⟩=0 then pcT ⟨t.r,t.wlo,t.whi,N⟩ else [])=PC at *;generalize ZAl ⟨t.r,t.wlo,t.whi,N⟩=TE at *;clear hE8 gbb7 hTb7 hTa7 gba7 hE7';refine zy ?_;refine ZA5 rfl rfl rfl rfl rfl Bod.h rfl rfl hpb ?_;rintro _ h9 ⟨hE9,p9,q9,rfl,hP9⟩;have hP89:=hP8.ext' hE9;refine zy ?_;refine zV (ZIy hP89 hP9 hpl) ?_;refine zD (A_tt rfl (ZBA rfl rfl)) ?_;refine zW (ZFN _) fun h10 hE10=>?_;refine zy ?_;exact ZAB (ZAC rfl ⟨rfl,hE8'.trans (hE9.trans hE10)⟩)
end Go.Dw
