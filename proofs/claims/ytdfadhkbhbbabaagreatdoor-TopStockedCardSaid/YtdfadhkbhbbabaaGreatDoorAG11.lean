/- A4: contracts: what is wrong with a record (works.check, works.Check). -/
import Derived.Test.YtdfadhkbhbbabaaGreatDoorAG2
import Derived.Test.YtdfadhkbhbbabaaGreatDoorAG9
import Derived.Test.YtdfadhkbhbbabaaGreatDoorAG10
import Derived.Test.YtdfadhkbhbbabaaGreatDoorAG4
set_option linter.unusedVariables false
set_option linter.unusedSimpArgs false
namespace Go.Dw
open Go Go.Dx Go.Proofs
set_option maxRecDepth 100000
abbrev xA40:List Nat:=[0,1,2,3,4,5,6,7,8,9,10,11,12,13,14,15,16,17,18]
abbrev xA41:List Nat:=[0,1,2,3,4,5,6,7,8,9,10,11,12,13,14]
abbrev xA42:List Nat:=[0,1,2,3,4,5,6,7,8,9,10,11,12]
abbrev xA43:List Nat:=[0,1,2,3,4,5,6,7,8,9,10]
abbrev xA44:List Nat:=[0,1,3,7,15,31,63,127,255,511,1023,2047,4095,8191,16383,32767,16383,81919,212991,524287,1048575]
abbrev xA45:List Nat:=[0,1,3,7,15,31,63,127,255,511,1023,2047,4095,8191,16383,32767,65535,131071,262143,524287,65535,1114111,3211263,8388607,16777215]
abbrev xA46:List Nat:=[14,15,16,17,18,20,21,22]
abbrev xA47:List Nat:=[4,5,6,7,8,9,10,11,12]
abbrev xA48:List Nat:=[4,5,6,7,8,9,10]
theorem ZOx {P:Program}{m:Mem}{h:Heap}{d:Option Tmp}{ty:TypeId}{pos:String}{af:Array Edge}{gu:Option (Nat×Bool)}{t tz u:TypeId} {ms}{x:Operand}{v:Value}(hu:P.underlying t=some (.interface ms))(hx:opk h m x=some (.iface u v)):Aop P ⟨d,.binOp .neq t x (.const .nilIface) tz,ty,pos,af,gu⟩ m h (.bool true) h:=by
 intro e hs ι w ac hr he;have hsv:=ZAH hr he (ZAM hs hx);generalize hz:ac.eval x=z at hsv
 cases hsv with
 | @iface _ _ v' hv =>
 refine OpS.here hr ?_ (VR.of_flat ι rfl);have h1:(eqGuard .neq t x (.const .nilIface) (.iface u v') .nilIface).run P w=.ok () w:=rfl;have h2:ac.eval (.const .nilIface)=.nilIface:=rfl;simp only[execOp,Sem.run_bind,hz,h2,h1,Result.andThen_ok,ZGr hu,Sem.run_pure]
structure WkR.Fit (x:WkR):Prop where
 archive:x.archive.length<=281474976710656
 a:x.a.length<=281474976710656
 b:x.b.length<=281474976710656
def ZLh (b:List UInt8):Bool:=decide (1<=b.length/\b.length<=40) && decide (b.head?≠some 32) && decide (b.getLast?≠some 32) && b.all priB
def ZFv (x:WkR):Bool:=if x.kind=4 then ZLh x.b else if x.kind=6 then decide (0<numR x.b) else ZA7 x.b
def ZBG (x:WkR):Int :=
 if ZA7 x.archive=false then 6
 else if (x.number<1\/9999<x.number)\/(x.day<0\/80000<x.day) then 7
 else if x.kind<1\/6<x.kind then 220
 else if (ZA7 x.a && ZFv x)=false then 6
 else if (x.kind=2\/x.kind=3)/\x.a=x.b then 2 else 0
theorem ZJx {x:WkR}{h:Heap}(hf:x.Fit):Sv Tryz.prog 165 [.agg ⟨rowW x⟩] h (RetP fun v h'=>v=i64 (if (ZA7 x.a && ZA7 x.b)=true then 0 else 6)/\Ext h h'):=by
 have ha:=hf.a;have hb:=hf.b;refine ZAG Tryz.func165 rfl (by rw[Tryz.ntmps165];rfl) ?_;show Wc Tryz.prog ⟨165,15,none⟩ _ _ _ _ _;refine zy ?_;refine ZAn rfl rfl rfl fun h1 hE1 hW1 hg1 hn1=>?_;refine zy ?_;refine zW (ZBc x.a _ (by omega)) fun h2 hE2=>?_;have k2:=hE2.get hg1;generalize ZA7 x.a=na;cases na
 ·refine zy ?_
  exact ZAC (ZAD rfl ⟨rfl,hE1.trans hE2⟩)
 refine zy ?_;refine zW (ZBc x.b _ (by omega)) fun h3 hE3=>?_;generalize ZA7 x.b=nb';cases nb'
 ·refine zy ?_
  exact ZAC (ZAD rfl ⟨rfl,(hE1.trans hE2).trans hE3⟩)
 refine zy ?_;exact ZAC (ZAD rfl ⟨rfl,(hE1.trans hE2).trans hE3⟩)
theorem ZQH {x:WkR}{h:Heap}(hf:x.Fit):Sv Tryz.prog 166 [.agg ⟨rowW x⟩] h (RetP fun v h'=>v=i64 (if (ZA7 x.a && ZA7 x.b)=true then (if x.a=x.b then 2 else 0) else 6)/\Ext h h'):=by
 refine ZAG Tryz.func166 rfl (by rw[Tryz.ntmps166];rfl) ?_;show Wc Tryz.prog ⟨166,18,none⟩ _ _ _ _ _;refine zy ?_;refine ZAn rfl rfl rfl fun h1 hE1 hW1 hg1 hn1=>?_;refine zy ?_;refine zW (ZJx hf) fun h2 hE2=>?_;have k2:=hE2.get hg1;generalize (ZA7 x.a && ZA7 x.b)=q;cases q
 ·refine zy ?_
  refine zD (A_tt (by decide) (ZAh rfl rfl)) ?_;exact ZAC (ZAD rfl ⟨rfl,hE1.trans hE2⟩)
 refine zy ?_;refine zD (A_ff (by decide) (ZAh rfl rfl)) ?_;refine zC (ZA6 rfl rfl) (fun c1=>?_) (fun c1=>?_)
 ·refine zy ?_
  exact ZAC (ZAD rfl ⟨by rw[if_pos rfl,if_neg c1];rfl,hE1.trans hE2⟩)
 refine zy ?_;exact ZAC (ZAD rfl ⟨by rw[if_pos rfl,if_pos (Classical.not_not.1 c1)];rfl,hE1.trans hE2⟩)
theorem ZSL {x:WkR}{h:Heap}(hf:x.Fit):Sv Tryz.prog 167 [.agg ⟨rowW x⟩] h (RetP fun v h'=>v=i64 (if (ZA7 x.a && ZLh x.b)=true then 0 else 6)/\Ext h h'):=by
 have ha:=hf.a;have hb:=hf.b;refine ZAG Tryz.func167 rfl (by rw[Tryz.ntmps167];rfl) ?_;show Wc Tryz.prog ⟨167,33,none⟩ _ _ _ _ _;refine zy ?_;refine ZAn rfl rfl rfl fun h1 hE1 hW1 hg1 hn1=>?_;refine zy ?_;refine zW (ZIb (s:=x.b) (by show _<_;omega)) fun h2 hE2=>?_;have k2:=hE2.get hg1;refine zy ?_;have cA:=ZBc x.a h2 (by omega)
 by_cases hA:ZA7 x.a=true
 rotate_left
 ·replace hA:=Bool.eq_false_iff.2 hA
  rw[hA] at cA ⊢;refine ZAL hmix xA45 [0,1,2] (some 3) [(xA47,(some 13)),(xA46,(some 19)),([23,24],none)] (by kernel_rfl) (by kernel_rfl) ?_;refine z_f ?_;refine z_f ?_;refine z_l ?_;refine ZAI [0,1,2] (by kernel_rfl) rfl (ZAA rfl) rfl nb rfl (ZBf rfl rfl rfl rfl rfl Bod.h cA (fun h3 hE3=>?_));refine z_n ?_;refine z_m ?_;refine g_m ?_;refine z_p ?_;refine z_m ?_;refine g_f ?_;refine g_f ?_;refine g_l ?_;refine g_d ?_;refine ZAI xA42 (by kernel_rfl) rfl (ZAA rfl) rfl nb rfl (ZCq rfl ?_);refine z_p ?_;refine z_m ?_;refine g_f ?_;refine g_f ?_;refine g_l ?_;refine g_f ?_;refine g_f ?_;refine g_l ?_
  refine ZAI xA40 (by kernel_rfl) rfl (ZAA rfl) rfl nb rfl (ZCq rfl ?_);refine z_o ?_;refine z_p ?_;refine ZAO (by refine o_l 22 ?_;refine o_f 21 ?_;refine o_f 20 ?_;exact ZAA rfl) nb' ?_;refine zy ?_;exact ZAC (ZAD rfl ⟨rfl,(hE1.trans hE2).trans hE3⟩)
 rw[hA] at cA ⊢;have hT:ZLh x.b=(decide (1<=x.b.length/\x.b.length<=40) && decide (x.b.head?≠some 32) && decide (x.b.getLast?≠some 32) && x.b.all priB):=rfl
 by_cases hP:x.b.all priB=true
 rotate_left
 ·replace hP:=Bool.eq_false_iff.2 hP
  rw[hP,Bool.and_false] at hT;rw[hP,hT];refine ZAL hmix xA45 [0,1,2] (some 3) [(xA47,(some 13)),(xA46,(some 19)),([23,24],none)] (by kernel_rfl) (by kernel_rfl) ?_;refine z_f ?_;refine z_f ?_;refine z_l ?_;refine ZAI [0,1,2] (by kernel_rfl) rfl (ZAA rfl) rfl nb rfl (ZBf rfl rfl rfl rfl rfl Bod.h cA (fun h3 hE3=>?_));refine z_n ?_;refine z_m ?_;refine g_m ?_;refine z_p ?_;refine z_m ?_;refine g_f ?_;refine g_f ?_;refine g_l ?_;refine g_d ?_;refine ZAI xA42 (by kernel_rfl) rfl (ZAA rfl) rfl nb rfl (ZCq rfl ?_);refine z_p ?_;refine z_m ?_;refine g_f ?_;refine g_f ?_;refine g_l ?_;refine g_f ?_;refine g_f ?_;refine g_l ?_
  refine ZAI xA40 (by kernel_rfl) rfl (ZAA rfl) rfl nb rfl (ZCq rfl ?_);refine z_o ?_;refine z_p ?_;refine ZAO (by refine o_l 22 ?_;refine o_f 21 ?_;refine o_f 20 ?_;exact ZAA rfl) nb' ?_;refine zy ?_;exact ZAC (ZAD rfl ⟨rfl,(hE1.trans hE2).trans hE3⟩)
 rw[hP,Bool.and_true] at hT;rw[hP];have cL:∀h3,Sv Tryz.prog 36 [i64 x.b.length,i64 1,i64 40] h3 (RetP fun v h'=>v=.bool (decide ((x.b.length:Int)<1\/40<(x.b.length:Int)))/\h'=h3):=fun h3=>ZGI _ _ _ _
 by_cases hL:1<=x.b.length/\x.b.length<=40
 rotate_left
 ·have e:decide ((x.b.length:Int)<1\/40<(x.b.length:Int))=true:=decide_eq_true (by omega)
  rw[decide_eq_false hL,Bool.false_and,Bool.false_and] at hT;rw[e] at cL;rw[hT];refine ZAL hmix xA45 [0,1,2] (some 3) [(xA47,(some 13)),(xA46,(some 19)),([23,24],none)] (by kernel_rfl) (by kernel_rfl) ?_;refine z_f ?_;refine z_f ?_;refine z_l ?_;refine ZAI [0,1,2] (by kernel_rfl) rfl (ZAA rfl) rfl nb rfl (ZBf rfl rfl rfl rfl rfl Bod.h cA (fun h3 hE3=>?_));have k3:=hE3.get k2;refine z_n ?_;refine z_m ?_;refine g_m ?_;refine z_p ?_;refine z_m ?_;refine g_f ?_;refine g_f ?_;refine g_l ?_;refine g_d ?_;refine ZAI xA42 (by kernel_rfl) rfl (ZAA rfl) rfl nb rfl (ZAX rfl rfl rfl rfl rfl Bod.h (cL h3) ?_)
  refine z_p ?_;refine z_m ?_;refine g_f ?_;refine g_f ?_;refine g_l ?_;refine g_f ?_;refine g_f ?_;refine g_l ?_;refine ZAI xA40 (by kernel_rfl) rfl (ZAA rfl) rfl nb rfl (ZCq rfl ?_);refine z_o ?_;refine z_p ?_;refine ZAO (by refine o_l 22 ?_;refine o_f 21 ?_;refine o_f 20 ?_;exact ZAA rfl) nb' ?_;refine zy ?_;exact ZAC (ZAD rfl ⟨rfl,(hE1.trans hE2).trans hE3⟩)
 have e:decide ((x.b.length:Int)<1\/40<(x.b.length:Int))=false:=decide_eq_false (by omega);rw[decide_eq_true hL,Bool.true_and] at hT;rw[e] at cL;have hne:x.b≠[]:=by rintro e;rw[e] at hL;simp at hL
 have hsame:=ZSG hne;have cT:∀h3,Sv Tryz.prog 67 [str x.b,str [32]] h3 (RetP fun v h'=>v=str (tSp x.b)/\h'=h3):=fun h3=>ZPu _ _ (by show _<_;omega) hne;generalize tSp x.b=tb at *
 by_cases hS:tb=x.b
 ·have hT2:ZLh x.b=true:=by
   rw[hT,decide_eq_true (hsame.1 hS).1,decide_eq_true (hsame.1 hS).2];rfl
  rw[hT2];refine ZAL hmix xA45 [0,1,2] (some 3) [(xA47,(some 13)),(xA46,(some 19)),([23,24],none)] (by kernel_rfl) (by kernel_rfl) ?_;refine z_f ?_;refine z_f ?_;refine z_l ?_;refine ZAI [0,1,2] (by kernel_rfl) rfl (ZAA rfl) rfl nb rfl (ZBf rfl rfl rfl rfl rfl Bod.h cA (fun h3 hE3=>?_));have k3:=hE3.get k2;refine z_n ?_;refine z_m ?_;refine g_m ?_;refine z_p ?_;refine z_m ?_;refine g_f ?_;refine g_f ?_;refine g_l ?_;refine g_d ?_;refine ZAI xA42 (by kernel_rfl) rfl (ZAA rfl) rfl nb rfl (ZAX rfl rfl rfl rfl rfl Bod.h (cL h3) ?_);refine z_p ?_;refine z_m ?_;refine g_f ?_;refine g_f ?_;refine g_l ?_;refine g_f ?_;refine g_f ?_;refine g_l ?_
  refine ZAI xA40 (by kernel_rfl) rfl (ZAA rfl) rfl nb rfl (ZAX rfl rfl rfl rfl rfl Bod.h (cT h3) ?_)
  first|refine ZAT rfl rfl rfl rfl ?_|refine ZAB rfl rfl rfl rfl rfl (fun _=>A_ff (fun e=>e hS) (ZA6 rfl rfl)) ?_
  refine z_p ?_;refine ZAO (by refine o_l 22 ?_;refine o_f 21 ?_;refine o_f 20 ?_;exact ZAA rfl) nb' ?_;refine zy ?_;exact ZAC (ZAD rfl ⟨rfl,(hE1.trans hE2).trans hE3⟩)
 have hT2:ZLh x.b=false:=by
  rw[hT,Bool.eq_false_iff];intro e;simp only[Bool.and_eq_true,decide_eq_true_eq] at e;exact hS (hsame.2 e)
 rw[hT2];refine ZAL hmix xA45 [0,1,2] (some 3) [(xA47,(some 13)),(xA46,(some 19)),([23,24],none)] (by kernel_rfl) (by kernel_rfl) ?_;refine z_f ?_;refine z_f ?_;refine z_l ?_;refine ZAI [0,1,2] (by kernel_rfl) rfl (ZAA rfl) rfl nb rfl (ZBf rfl rfl rfl rfl rfl Bod.h cA (fun h3 hE3=>?_));have k3:=hE3.get k2;refine z_n ?_;refine z_m ?_;refine g_m ?_;refine z_p ?_;refine z_m ?_;refine g_f ?_;refine g_f ?_;refine g_l ?_;refine g_d ?_;refine ZAI xA42 (by kernel_rfl) rfl (ZAA rfl) rfl nb rfl (ZAX rfl rfl rfl rfl rfl Bod.h (cL h3) ?_);refine z_p ?_;refine z_m ?_;refine g_f ?_;refine g_f ?_;refine g_l ?_;refine g_f ?_;refine g_f ?_;refine g_l ?_
 refine ZAI xA40 (by kernel_rfl) rfl (ZAA rfl) rfl nb rfl (ZAX rfl rfl rfl rfl rfl Bod.h (cT h3) ?_)
 first|refine ZAT rfl rfl rfl rfl ?_|refine ZAB rfl rfl rfl rfl rfl (fun _=>A_tt hS (ZA6 rfl rfl)) ?_
 refine z_p ?_;refine ZAO (by refine o_l 22 ?_;refine o_f 21 ?_;refine o_f 20 ?_;exact ZAA rfl) nb' ?_;refine zy ?_;exact ZAC (ZAD rfl ⟨rfl,(hE1.trans hE2).trans hE3⟩)
theorem ZUG {x:WkR}{h:Heap}(hf:x.Fit)(hL:WkLib h):Sv Tryz.prog 168 [.agg ⟨rowW x⟩] h (RetP fun v h'=>v=i64 (if (ZA7 x.a && decide (0<numR x.b))=true then 0 else 6)/\Ext h h'):=by
 have ha:=hf.a;have hb:=hf.b;refine ZAG Tryz.func168 rfl (by rw[Tryz.ntmps168];rfl) ?_;show Wc Tryz.prog ⟨168,33,none⟩ _ _ _ _ _;refine zy ?_;refine ZAn rfl rfl rfl fun h1 hE1 hW1 hg1 hn1=>?_;refine zy ?_;refine zR (ZPY (s:=x.b) hb (hL.ext hE1)) ?_;rintro _ h2 ⟨hE2,hv⟩;have k2:=hE2.get hg1;have cA:=ZBc x.a h2 (by omega);have hN:=ZMp x.b
 rcases hv with ⟨n,hn,rfl⟩|⟨hn,n,te,be,rfl⟩
 rotate_left
 ·have hN2:decide (0<numR x.b)=false:=decide_eq_false fun e=>by
   obtain⟨m,hm,-⟩:=hN.1 e;exact hn m hm
  rw[hN2,Bool.and_false];refine zy ?_
  by_cases hA:ZA7 x.a=true
  rotate_left
  ·replace hA:=Bool.eq_false_iff.2 hA
   rw[hA] at cA;refine ZAL hmix xA44 [0,1,2] (some 3) [(xA48,(some 11)),([12,13,14,16,17,18],(some 15)),([19,20],none)] (by kernel_rfl) (by kernel_rfl) ?_;refine z_f ?_;refine z_f ?_;refine z_l ?_;refine ZAI [0,1,2] (by kernel_rfl) rfl (ZAA rfl) rfl nb rfl (ZBf rfl rfl rfl rfl rfl Bod.h cA (fun h3 hE3=>?_));refine z_n ?_;refine z_m ?_;refine g_m ?_;refine z_o ?_;refine z_p ?_;refine z_m ?_;refine g_m ?_;refine ZAI xA43 (by kernel_rfl) rfl (ZAA rfl) rfl nb rfl (ZCq rfl ?_);refine z_p ?_;refine z_m ?_;refine g_m ?_;refine g_f ?_;refine g_f ?_;refine g_l ?_;refine ZAI xA41 (by kernel_rfl) rfl (ZAA rfl) rfl nb rfl (ZCq rfl ?_)
   refine z_o ?_;refine z_p ?_;refine ZAO (by refine o_l 18 ?_;refine o_f 17 ?_;refine o_f 16 ?_;exact ZAA rfl) nb' ?_;refine zy ?_;exact ZAC (ZAD rfl ⟨rfl,(hE1.trans hE2).trans hE3⟩)
  rw[hA] at cA;refine ZAL hmix xA44 [0,1,2] (some 3) [(xA48,(some 11)),([12,13,14,16,17,18],(some 15)),([19,20],none)] (by kernel_rfl) (by kernel_rfl) ?_;refine z_f ?_;refine z_f ?_;refine z_l ?_;refine ZAI [0,1,2] (by kernel_rfl) rfl (ZAA rfl) rfl nb rfl (ZBf rfl rfl rfl rfl rfl Bod.h cA (fun h3 hE3=>?_));refine z_n ?_;refine z_m ?_;refine g_m ?_
  first|refine ZAT rfl rfl rfl rfl ?_|refine ZAB rfl rfl rfl rfl rfl (fun _=>ZOx Tryz.underlying137 rfl) ?_
  refine z_p ?_;refine z_m ?_;refine g_m ?_;refine ZAI xA43 (by kernel_rfl) rfl (ZAA rfl) rfl nb rfl (ZCq rfl ?_);refine z_p ?_;refine z_m ?_;refine g_m ?_;refine g_f ?_;refine g_f ?_;refine g_l ?_;refine ZAI xA41 (by kernel_rfl) rfl (ZAA rfl) rfl nb rfl (ZCq rfl ?_);refine z_o ?_;refine z_p ?_;refine ZAO (by refine o_l 18 ?_;refine o_f 17 ?_;refine o_f 16 ?_;exact ZAA rfl) nb' ?_;refine zy ?_;exact ZAC (ZAD rfl ⟨rfl,(hE1.trans hE2).trans hE3⟩)
 refine zy ?_
 by_cases hA:ZA7 x.a=true
 rotate_left
 ·replace hA:=Bool.eq_false_iff.2 hA
  rw[hA] at cA ⊢;refine ZAL hmix xA44 [0,1,2] (some 3) [(xA48,(some 11)),([12,13,14,16,17,18],(some 15)),([19,20],none)] (by kernel_rfl) (by kernel_rfl) ?_;refine z_f ?_;refine z_f ?_;refine z_l ?_;refine ZAI [0,1,2] (by kernel_rfl) rfl (ZAA rfl) rfl nb rfl (ZBf rfl rfl rfl rfl rfl Bod.h cA (fun h3 hE3=>?_));refine z_n ?_;refine z_m ?_;refine g_m ?_;refine z_o ?_;refine z_p ?_;refine z_m ?_;refine g_m ?_;refine ZAI xA43 (by kernel_rfl) rfl (ZAA rfl) rfl nb rfl (ZCq rfl ?_);refine z_p ?_;refine z_m ?_;refine g_m ?_;refine g_f ?_;refine g_f ?_;refine g_l ?_;refine ZAI xA41 (by kernel_rfl) rfl (ZAA rfl) rfl nb rfl (ZCq rfl ?_)
  refine z_o ?_;refine z_p ?_;refine ZAO (by refine o_l 18 ?_;refine o_f 17 ?_;refine o_f 16 ?_;exact ZAA rfl) nb' ?_;refine zy ?_;exact ZAC (ZAD rfl ⟨rfl,(hE1.trans hE2).trans hE3⟩)
 rw[hA,Bool.true_and];rw[hA] at cA;have cO:∀h3,Sv Tryz.prog 36 [i64 n,i64 1,i64 9999] h3 (RetP fun v h'=>v=.bool (decide (n<1\/9999<n))/\h'=h3):=fun h3=>ZGI _ _ _ _
 by_cases hO:n<1\/9999<n
 ·rw[decide_eq_true hO] at cO
  have hN2:decide (0<numR x.b)=false:=decide_eq_false fun e=>by
   have:=ZTN e hn;obtain⟨m,hm,q1,q2,-⟩:=hN.1 e;rw[hn] at hm;cases hm;omega
  rw[hN2];refine ZAL hmix xA44 [0,1,2] (some 3) [(xA48,(some 11)),([12,13,14,16,17,18],(some 15)),([19,20],none)] (by kernel_rfl) (by kernel_rfl) ?_;refine z_f ?_;refine z_f ?_;refine z_l ?_;refine ZAI [0,1,2] (by kernel_rfl) rfl (ZAA rfl) rfl nb rfl (ZBf rfl rfl rfl rfl rfl Bod.h cA (fun h3 hE3=>?_));refine z_n ?_;refine z_m ?_;refine g_m ?_
  first|refine ZAT rfl rfl rfl rfl ?_|refine ZAB rfl rfl rfl rfl rfl (fun _=>ZF0 Tryz.underlying137 rfl) ?_
  refine z_p ?_;refine z_m ?_;refine g_m ?_;refine ZAI xA43 (by kernel_rfl) rfl (ZAA rfl) rfl nb rfl (ZAX rfl rfl rfl rfl rfl Bod.h (cO h3) ?_);refine z_p ?_;refine z_m ?_;refine g_m ?_;refine g_f ?_;refine g_f ?_;refine g_l ?_;refine ZAI xA41 (by kernel_rfl) rfl (ZAA rfl) rfl nb rfl (ZCq rfl ?_);refine z_o ?_;refine z_p ?_;refine ZAO (by refine o_l 18 ?_;refine o_f 17 ?_;refine o_f 16 ?_;exact ZAA rfl) nb' ?_;refine zy ?_;exact ZAC (ZAD rfl ⟨rfl,(hE1.trans hE2).trans hE3⟩)
 rw[decide_eq_false hO] at cO;have hI:-9223372036854775808<=n/\n<9223372036854775808:=by omega
 have cI:∀h3,Ext h1 h3->Sv Tryz.prog 179 [i64 n] h3 (RetP fun v h'=>v=str (Lib.itoa n)/\h'=h3):=fun h3 he=>ZUU hI ((hL.ext hE1).ext he)
 by_cases hS:Lib.itoa n=x.b
 ·have hN2:decide (0<numR x.b)=true:=decide_eq_true (hN.2 ⟨n,hn,by omega,by omega,hS⟩)
  rw[hN2];refine ZAL hmix xA44 [0,1,2] (some 3) [(xA48,(some 11)),([12,13,14,16,17,18],(some 15)),([19,20],none)] (by kernel_rfl) (by kernel_rfl) ?_;refine z_f ?_;refine z_f ?_;refine z_l ?_;refine ZAI [0,1,2] (by kernel_rfl) rfl (ZAA rfl) rfl nb rfl (ZBf rfl rfl rfl rfl rfl Bod.h cA (fun h3 hE3=>?_));have k3:=hE3.get k2;refine z_n ?_;refine z_m ?_;refine g_m ?_
  first|refine ZAT rfl rfl rfl rfl ?_|refine ZAB rfl rfl rfl rfl rfl (fun _=>ZF0 Tryz.underlying137 rfl) ?_
  refine z_p ?_;refine z_m ?_;refine g_m ?_;refine ZAI xA43 (by kernel_rfl) rfl (ZAA rfl) rfl nb rfl (ZAX rfl rfl rfl rfl rfl Bod.h (cO h3) ?_);refine z_p ?_;refine z_m ?_;refine g_m ?_;refine g_f ?_;refine g_f ?_;refine g_l ?_;refine ZAI xA41 (by kernel_rfl) rfl (ZAA rfl) rfl nb rfl (ZAX rfl rfl rfl rfl rfl Bod.h (cI h3 (hE2.trans hE3)) ?_)
  first|refine ZAT rfl rfl rfl rfl ?_|refine ZAB rfl rfl rfl rfl rfl (fun _=>A_ff (fun e=>e hS) (ZA6 rfl rfl)) ?_
  refine z_p ?_;refine ZAO (by refine o_l 18 ?_;refine o_f 17 ?_;refine o_f 16 ?_;exact ZAA rfl) nb' ?_;refine zy ?_;exact ZAC (ZAD rfl ⟨rfl,(hE1.trans hE2).trans hE3⟩)
 have hN2:decide (0<numR x.b)=false:=decide_eq_false fun e=>by
  obtain⟨m,hm,q1,q2,q3⟩:=hN.1 e;rw[hn] at hm;cases hm;exact hS q3
 rw[hN2];refine ZAL hmix xA44 [0,1,2] (some 3) [(xA48,(some 11)),([12,13,14,16,17,18],(some 15)),([19,20],none)] (by kernel_rfl) (by kernel_rfl) ?_;refine z_f ?_;refine z_f ?_;refine z_l ?_;refine ZAI [0,1,2] (by kernel_rfl) rfl (ZAA rfl) rfl nb rfl (ZBf rfl rfl rfl rfl rfl Bod.h cA (fun h3 hE3=>?_));have k3:=hE3.get k2;refine z_n ?_;refine z_m ?_;refine g_m ?_
 first|refine ZAT rfl rfl rfl rfl ?_|refine ZAB rfl rfl rfl rfl rfl (fun _=>ZF0 Tryz.underlying137 rfl) ?_
 refine z_p ?_;refine z_m ?_;refine g_m ?_;refine ZAI xA43 (by kernel_rfl) rfl (ZAA rfl) rfl nb rfl (ZAX rfl rfl rfl rfl rfl Bod.h (cO h3) ?_);refine z_p ?_;refine z_m ?_;refine g_m ?_;refine g_f ?_;refine g_f ?_;refine g_l ?_;refine ZAI xA41 (by kernel_rfl) rfl (ZAA rfl) rfl nb rfl (ZAX rfl rfl rfl rfl rfl Bod.h (cI h3 (hE2.trans hE3)) ?_)
 first|refine ZAT rfl rfl rfl rfl ?_|refine ZAB rfl rfl rfl rfl rfl (fun _=>A_tt hS (ZA6 rfl rfl)) ?_
 refine z_p ?_;refine ZAO (by refine o_l 18 ?_;refine o_f 17 ?_;refine o_f 16 ?_;exact ZAA rfl) nb' ?_;refine zy ?_;exact ZAC (ZAD rfl ⟨rfl,(hE1.trans hE2).trans hE3⟩)
abbrev fnV (f:Nat):Value:=.func (.func f) ⟨[]⟩ ⟨[]⟩
abbrev ZIo:Value:=.agg ⟨[.nilFunc,fnV 165,fnV 166,fnV 166,fnV 167,fnV 165,fnV 168]⟩
theorem ZRm (h:Heap):Sv Tryz.prog 136 [] h (RetP fun v h'=>v=ZIo/\Ext h h'):=by
 refine ZAG Tryz.func136 rfl (by rw[Tryz.ntmps136];rfl) ?_;show Wc Tryz.prog ⟨136,2,none⟩ _ _ _ _ _;refine ZBR fun hW0=>?_;refine zy ?_;refine ZA2 rfl rfl Zr.h fun h1 hE1 hW1 hg1 hn1=>?_;refine zy ?_;refine zE (ZC5 (v:=ZIo) rfl (by kernel_rfl)) ?_;refine ZAf (v:=ZIo) (r:=ZIo.cells.toList) rfl Tsz.h rfl rfl hg1 rfl rfl (by kernel_rfl) fun h5 hU=>?_;have hg5:=hU.at';refine zy ?_;exact ZAC (ZAD (vs:=[ZIo]) (ZBT rfl (ZBp RowC.h (ZAP hg5 rfl)) rfl) ⟨rfl,hU.ext hE1 hW0 (Nat.le_refl _)⟩)
theorem ZGP {a lo hi:Int}{b:Bool}(hb:decide (a<lo\/hi<a)=b)(h:Heap):Sv Tryz.prog 36 [i64 a,i64 lo,i64 hi] h (RetP fun v h'=>v=.bool b/\h'=h):=by
 rw[<-hb];exact ZGI _ _ _ _
set_option maxHeartbeats 4000000 in
theorem ZRj {x:WkR}{h:Heap}(hf:x.Fit)(hL:WkLib h):Sv Tryz.prog 91 [.agg ⟨rowW x⟩] h (RetP fun v h'=>v=i64 (ZBG x)/\Ext h h'):=by
 have har:=hf.archive;refine ZAG Tryz.func91 rfl (by rw[Tryz.ntmps91];rfl) ?_;show Wc Tryz.prog ⟨91,28,none⟩ _ _ _ _ _;refine zy ?_;refine ZAn rfl rfl rfl fun h1 hE1 hW1 hg1 hn1=>?_;refine zy ?_;have cA:=ZBc x.archive h1 (by omega)
 by_cases c1:ZA7 x.archive=true
 rotate_left
 ·replace c1:=Bool.eq_false_iff.2 c1
  rw[c1] at cA;refine ZBv rfl rfl rfl rfl rfl Bod.h rfl rfl cA fun h2 hE2=>?_;refine zy ?_;exact ZAC (ZAD rfl ⟨by unfold ZBG;rw[if_pos c1];rfl,hE1.trans hE2⟩)
 rw[c1] at cA;refine ZBv rfl rfl rfl rfl rfl Bod.h rfl rfl cA fun h2 hE2=>?_;have k2:=hE2.get hg1;have hE12:=hE1.trans hE2;refine zy ?_
 by_cases c2:x.number<1\/9999<x.number
 ·refine zV (ZGP (decide_eq_true c2) _) ?_
  exact ZAC (ZAD rfl ⟨by unfold ZBG;rw[if_neg (by rw[c1];decide),if_pos (.inl c2)];rfl,hE12⟩)
 refine zV (ZGP (decide_eq_false c2) _) ?_
 by_cases c3:x.day<0\/80000<x.day
 ·refine zV (ZGP (decide_eq_true c3) _) ?_
  exact ZAC (ZAD rfl ⟨by unfold ZBG;rw[if_neg (by rw[c1];decide),if_pos (.inr c3)];rfl,hE12⟩)
 refine zV (ZGP (decide_eq_false c3) _) ?_
 by_cases c4:x.kind<1\/6<x.kind
 ·refine zV (ZGP (decide_eq_true c4) _) ?_
  exact ZAC (ZAD rfl ⟨by unfold ZBG;rw[if_neg (by rw[c1];decide),if_neg (not_or.2 ⟨c2,c3⟩),if_pos c4];rfl,hE12⟩)
 refine zV (ZGP (decide_eq_false c4) _) ?_;have key:∃g v,ZGf Tryz.prog 205 ZIo (i64 x.kind)=some (fnV g)/\ZAp Tryz.prog g=true/\ZBG x=v/\∀h3,WkLib h3->Sv Tryz.prog g [.agg ⟨rowW x⟩] h3 (RetP fun r h'=>r=i64 v/\Ext h3 h'):=by
  have hR:ZBG x=if (ZA7 x.a && ZFv x)=false then 6 else if (x.kind=2\/x.kind=3)/\x.a=x.b then 2 else 0:=by
   unfold ZBG;rw[if_neg (by rw[c1];decide),if_neg (not_or.2 ⟨c2,c3⟩),if_neg c4]
  have hflip:∀b:Bool,(if b=false then (6:Int) else 0)=if b=true then 0 else 6:=fun b=>by cases b <;> rfl
  rcases (show x.kind=1\/x.kind=2\/x.kind=3\/x.kind=4\/x.kind=5\/x.kind=6 by omega) with e|e|e|e|e|e
  ·refine⟨165,_,by rw[e];kernel_rfl,Bod.h,?_,fun h3 _=>ZJx hf⟩
   rw[hR,e,if_neg (show ¬(((1:Int)=2\/(1:Int)=3)/\x.a=x.b) by omega),hflip];unfold ZFv;rw[e];rfl
  ·refine⟨166,_,by rw[e];kernel_rfl,Bod.h,?_,fun h3 _=>ZQH hf⟩
   have hg:ZFv x=ZA7 x.b:=by unfold ZFv;rw[e];rfl
   rw[hR,e,hg];cases (ZA7 x.a && ZA7 x.b)
   ·rfl
   ·simp
  ·refine⟨166,_,by rw[e];kernel_rfl,Bod.h,?_,fun h3 _=>ZQH hf⟩
   have hg:ZFv x=ZA7 x.b:=by unfold ZFv;rw[e];rfl
   rw[hR,e,hg];cases (ZA7 x.a && ZA7 x.b)
   ·rfl
   ·simp
  ·refine⟨167,_,by rw[e];kernel_rfl,Bod.h,?_,fun h3 _=>ZSL hf⟩
   rw[hR,e,if_neg (show ¬(((4:Int)=2\/(4:Int)=3)/\x.a=x.b) by omega),hflip];unfold ZFv;rw[e];rfl
  ·refine⟨165,_,by rw[e];kernel_rfl,Bod.h,?_,fun h3 _=>ZJx hf⟩
   rw[hR,e,if_neg (show ¬(((5:Int)=2\/(5:Int)=3)/\x.a=x.b) by omega),hflip];unfold ZFv;rw[e];rfl
  ·refine⟨168,_,by rw[e];kernel_rfl,Bod.h,?_,fun h3 hL3=>ZUG hf hL3⟩
   rw[hR,e,if_neg (show ¬(((6:Int)=2\/(6:Int)=3)/\x.a=x.b) by omega),hflip];unfold ZFv;rw[e];rfl
 obtain⟨g,v,hix,hbd,hv,hs⟩:=key;refine ZAL hmix [0,0,2,7,0,16,63,127] [1,2,4,5] (some 0) [([3],(some 6)),([],(some 7)),([],none)] (by kernel_rfl) (by kernel_rfl) ?_;refine z_f ?_;refine z_l ?_;refine z_r ?_;refine z_b ?_;refine ZAI [] (by kernel_rfl) rfl (ZAA rfl) rfl nb rfl (ZBf rfl rfl rfl rfl rfl Bod.h (ZRm h2) (fun h3 hE3=>?_));have k3:=hE3.get k2;refine ZAB rfl rfl rfl rfl rfl (fun _=>ZQc rfl rfl hix) ?_;refine ZAI [0,1,2,3,4,5] (by kernel_rfl) rfl (by refine t_b 5 ?_;refine t_r 4 ?_;refine t_l 2 ?_;refine t_f 1 ?_;exact ZAA rfl) rfl nb rfl (ZBf rfl rfl rfl rfl rfl hbd (hs h3 ((hL.ext hE12).ext hE3)) (fun h4 hE4=>?_))
 have k4:=hE4.get k3;refine ZAI [0,1,2,3,4,5,6] (by kernel_rfl) rfl (ZAA rfl) rfl nb rfl (ZCU rfl rfl (ZAj rfl) ?_);refine ZAO (ZAA rfl) nb' ?_;refine zy ?_;exact ZAC (ZAD rfl ⟨by rw[hv];rfl,(hE12.trans hE3).trans hE4⟩)
abbrev RecR:Heap->List Value->WkR->Prop:=fun _ row x=>row=rowW x
abbrev ZNX (h:Heap)(a:Option Addr)(l:List WkR):Prop:=ZBO 6 RecR h a l
theorem ZNX.ext {h h':Heap}{a:Option Addr}{l:List WkR}(hl:ZNX h a l)(he:Ext h h'):ZNX h' a l:=ZBO.ext (fun hr _=>hr) hl he
def ZFy (i:Nat):List WkR->Int×Int
 | []=>(0,0)
 | x::l=>if ZBG x≠0 then ((i:Nat),ZBG x) else ZFy (i+1) l
def chkS (l:List WkR):Int×Int:=if 200<l.length then (0,3) else ZFy 0 l
theorem ZLM {a:Option Addr}{cap:Nat}{l:List WkR}{h:Heap}(hR:ZNX h a l)(hf:∀x∈l,x.Fit)(hlen:Len l)(hL:WkLib h) :
  Sv Tryz.prog 51 [.slice a l.length cap] h (RetP fun v h'=>v=.tuple ⟨[i64 (chkS l).1,i64 (chkS l).2]⟩/\Ext h h'):=by
 refine ZA5 fun hw=>?_;refine ZAG Tryz.func51 rfl (by rw[Tryz.ntmps51];rfl) ?_;show Wc Tryz.prog ⟨51,23,none⟩ _ _ _ _ _;refine zy ?_;refine zC (ZA4 rfl rfl) (fun h1=>?_) (fun h1=>?_)
 ·refine zy ?_
  exact ZAC (ZAD rfl ⟨by unfold chkS;rw[if_pos (by omega)];rfl,Ext.refl _⟩)
 have hS:chkS l=ZFy 0 l:=by unfold chkS;rw[if_neg (by omega)]
 refine zy ?_;refine ZAN (fun (k:Nat) m ds h'=>ds=[]/\Ext h h'/\k<=l.length/\chkS l=ZFy k (l.drop k)/\AllK m [(9,.slice a l.length cap),(10,i64 l.length),(11,i64 (k:Nat))]) (fun k=>l.length-k) 0 ?_ ?_
 ·exact⟨rfl,Ext.refl _,Nat.zero_le _,hS,rfl,rfl,rfl,trivial⟩
 rintro k m ds h1 ⟨rfl,hE,hk,hF,hall⟩;refine Wc.le ?_ (Le.kn hall);clear hall;refine zy ?_;refine zC (ZAU rfl rfl) (fun h1=>?_) (fun h1=>?_);rotate_left
 ·refine zy ?_
  have:k=l.length:=by omega
  subst this;rw[List.drop_length] at hF;exact ZAC (ZAD rfl ⟨by rw[hF];rfl,hE⟩)
 have hk':k<l.length:=by omega
 rw[List.drop_eq_getElem_cons hk',ZFy] at hF;obtain⟨b,o,oa,rfl,row,hrow,hx⟩:=hR k hk';have hf':=hf _ (List.getElem_mem hk');generalize l[k]=x at hF hx hf';have hx':row=rowW x:=hx;subst hx';have hrow1:=hE.row hrow;refine zy ?_;refine zD (A_ix Und.h Tsz.h rfl rfl) ?_;refine ZA2 rfl rfl Zr.h fun h2 hE2 hW2 hg2 hn2=>?_;refine zy ?_;refine ZAf rfl Tsz.h rfl rfl hg2 rfl rfl rfl fun h3 hU=>?_;have hE3:=hU.ext (hE.trans hE2) hw (by have:=hE.2.1;omega);have hg3:=hU.at';refine zy ?_;refine zW (ZRj hf' (hL.ext hE3)) fun h4 hE4=>?_;refine zy ?_;refine zC (ZAh rfl rfl) (fun h5=>?_) (fun h5=>?_)
 ·refine zy ?_
  rw[if_pos h5] at hF;exact ZAC (ZAD rfl ⟨by rw[hF];rfl,hE3.trans hE4⟩)
 ·refine zy ?_
  rw[if_neg h5] at hF;exact⟨k+1,(by show l.length-(k+1)<l.length-k;omega),rfl,hE3.trans hE4,hk',hF,rfl,rfl,rfl,trivial⟩
end Go.Dw
