/- U1: contracts: film.out, film.size, film.whole. -/
import Derived.Test.YtphonfljfmedgaaGreatDoorAG2
import Derived.Test.YtphonfljfmedgaaGreatDoorAG3
import Derived.Test.YtphonfljfmedgaaGreatDoorAG5
set_option linter.unusedVariables false
set_option linter.unusedSimpArgs false
namespace Go.Dw
open Go Go.Dx Go.Proofs
set_option maxRecDepth 100000
theorem ZAw {a lo hi:Int}{b:Bool}(hb:decide (a<lo\/hi<a)=b)(h:Heap):Sv Tryz.prog 48 [i64 a,i64 lo,i64 hi] h (RetP fun v h'=>v=.bool b/\h'=h):=by
 rw[<-hb];exact ZFp a lo hi h
theorem ZBJ {a lo hi:Int}{b:Bool}(hb:decide (a<lo\/hi<a)=b)(h:Heap):Sv Tryz.prog 42 [i64 a,i64 lo,i64 hi] h (RetP fun v h'=>v=.bool b/\h'=h):=by
 rw[<-hb];refine ZAF Tryz.func42 rfl (by rw[Tryz.ntmps42];rfl) ?_;show Wc Tryz.prog ⟨42,15,none⟩ _ _ _ _ _;refine zy ?_;refine zC (ZAx rfl rfl) (fun h1=>?_) (fun h1=>?_)
 ·refine zy ?_
  exact ZAB (ZAC rfl ⟨by rw[decide_eq_true (.inl h1)];rfl,rfl⟩)
 ·refine zy ?_
  refine zC (ZBw rfl rfl) (fun h2=>?_) (fun h2=>?_)
  ·refine zy ?_
   exact ZAB (ZAC rfl ⟨by rw[decide_eq_true (.inr h2)];rfl,rfl⟩)
  ·refine zy ?_
   exact ZAB (ZAC rfl ⟨by rw[decide_eq_false (not_or.2 ⟨h1,h2⟩)];rfl,rfl⟩)
theorem ZNq (g:Int)(h:Heap):Sv Tryz.prog 77 [i64 g] h (RetP fun v h'=>v=.tuple ⟨[i64 (ZDD g),i64 (ZR2 g)]⟩/\h'=h):=by
 refine ZAF Tryz.func77 rfl (by rw[Tryz.ntmps77];rfl) ?_;show Wc Tryz.prog ⟨77,16,none⟩ _ _ _ _ _;refine zy ?_
 by_cases h8:g=8
 ·subst h8
  refine zD (A_tt rfl (ZBA rfl rfl)) ?_;refine ZAR hmix [0,1,0,4,3,31] [0,1,2,3] (some 4) [([],(some 5)),([],none)] (by kernel_rfl) (by kernel_rfl) ?_;refine z_m ?_;refine ZAI rfl rfl rfl rfl rfl (fun _=>ZPJ rfl rfl (c:=80) rfl (by omega) (by omega)) ?_;refine z_m ?_;refine ZAI rfl rfl rfl rfl rfl (fun _=>ZOG rfl rfl (by decide) (c:=3810) rfl (by omega) (by omega)) ?_;refine ZAM [0,1] (by kernel_rfl) rfl (ZAA rfl) rfl nb rfl (ZBm rfl rfl (ZAY rfl) ?_);refine ZAM [0,1,2,3,4] (by kernel_rfl) rfl (by refine ZAQ (i:=3) rfl rfl rfl rfl rfl (fun _=>ZOG rfl rfl (by decide) (c:=3810) rfl (by omega) (by omega)) rfl ?_;refine t_m 2 ?_;exact ZAA rfl) rfl nb rfl (ZBm rfl rfl (ZAY rfl) ?_)
  refine ZAc (ZAA rfl) nb' ?_;refine zy ?_;exact ZAB (ZAC rfl ⟨rfl,rfl⟩)
 refine zD (A_ff h8 (ZBA rfl rfl)) ?_
 by_cases h16:g=16
 ·subst h16
  refine zD (A_tt rfl (ZBA rfl rfl)) ?_;refine ZAR hmix [0,1,0,4,3,31] [0,1,2,3] (some 4) [([],(some 5)),([],none)] (by kernel_rfl) (by kernel_rfl) ?_;refine z_m ?_;refine ZAI rfl rfl rfl rfl rfl (fun _=>ZPJ rfl rfl (c:=40) rfl (by omega) (by omega)) ?_;refine z_m ?_;refine ZAI rfl rfl rfl rfl rfl (fun _=>ZOG rfl rfl (by decide) (c:=7620) rfl (by omega) (by omega)) ?_;refine ZAM [0,1] (by kernel_rfl) rfl (ZAA rfl) rfl nb rfl (ZBm rfl rfl (ZAY rfl) ?_);refine ZAM [0,1,2,3,4] (by kernel_rfl) rfl (by refine ZAQ (i:=3) rfl rfl rfl rfl rfl (fun _=>ZOG rfl rfl (by decide) (c:=7620) rfl (by omega) (by omega)) rfl ?_;refine t_m 2 ?_;exact ZAA rfl) rfl nb rfl (ZBm rfl rfl (ZAY rfl) ?_)
  refine ZAc (ZAA rfl) nb' ?_;refine zy ?_;exact ZAB (ZAC rfl ⟨rfl,rfl⟩)
 refine zD (A_ff h16 (ZBA rfl rfl)) ?_
 by_cases h35:g=35
 ·subst h35
  refine zD (A_tt rfl (ZBA rfl rfl)) ?_;exact ZAB (ZAC rfl ⟨rfl,rfl⟩)
 refine zD (A_ff h35 (ZBA rfl rfl)) ?_;exact ZAB (ZAC rfl ⟨by unfold ZDD ZR2;rw[if_neg h8,if_neg h16,if_neg h35,if_neg h8,if_neg h16,if_neg h35];rfl,rfl⟩)
abbrev rowR (r:Rl)(am:Option Addr)(cm:Nat)(as':Option Addr)(cs:Nat)(al:Option Addr)(cl:Nat):List Value:=[str r.name,i64 r.gauge,i64 r.base,i64 r.frames,i64 r.ylo,i64 r.yhi,i64 r.keep,.slice am r.marks.length cm,.slice as' r.syms.length cs,.slice al r.lens.length cl]
theorem ZQS {r:Rl}{am as' al:Option Addr}{cm cs cl:Nat}{h:Heap}(hn:r.name.length<=281474976710656):Sv Tryz.prog 47 [.agg ⟨rowR r am cm as' cs al cl⟩] h (RetP fun v h'=>v=i64 (ZCA r)/\Ext h h'):=by
 refine ZAF Tryz.func47 rfl (by rw[Tryz.ntmps47];rfl) ?_;show Wc Tryz.prog ⟨47,53,none⟩ _ _ _ _ _;refine zy ?_;refine ZAv rfl rfl rfl fun h1 hE1 hW1 hg1 hn1=>?_;refine zy ?_;refine zV (ZNq r.gauge _) ?_;have cA:=ZHJ r.name h1 (by omega)
 by_cases c1:ZFg r.name=true
 rotate_left
 ·replace c1:=Bool.eq_false_iff.2 c1
  rw[c1] at cA;refine ZBe rfl rfl rfl rfl rfl Bod.h rfl rfl cA fun h2 hE2=>?_;refine zy ?_;exact ZAB (ZAC rfl ⟨by unfold ZCA;rw[if_pos c1];rfl,hE1.trans hE2⟩)
 have e1:ZCA r=if ZDD r.gauge=0\/(r.base<1\/3<r.base) then 2 else if (r.frames<1\/200000<r.frames)\/(r.keep<0\/50<r.keep)\/(r.ylo<1890\/2100<r.ylo)\/(r.yhi<1890\/2100<r.yhi) then 7 else if r.yhi<r.ylo then 2 else 0:=by unfold ZCA;rw[if_neg (by rw[c1];decide)]
 rw[e1];rw[c1] at cA;refine ZBe rfl rfl rfl rfl rfl Bod.h rfl rfl cA fun h2 hE2=>?_;have k2:=hE2.get hg1;have hE12:=hE1.trans hE2;clear cA hg1 hE1 hE2 e1;refine zy ?_
 by_cases c2:ZDD r.gauge=0
 ·refine zD (A_tt c2 (ZBA rfl rfl)) ?_
  exact ZAB (ZAC rfl ⟨by rw[if_pos (.inl c2)];rfl,hE12⟩)
 refine zD (A_ff c2 (ZBA rfl rfl)) ?_
 by_cases c3:r.base<1\/3<r.base
 ·refine zV (ZAw (decide_eq_true c3) _) ?_
  exact ZAB (ZAC rfl ⟨by rw[if_pos (.inr c3)];rfl,hE12⟩)
 refine zU (ZAw (decide_eq_false c3) _) ?_;rw[if_neg (not_or.2 ⟨c2,c3⟩)];refine zy ?_
 by_cases c4:r.frames<1\/200000<r.frames
 ·refine zV (ZAw (decide_eq_true c4) _) ?_
  exact ZAB (ZAC rfl ⟨by rw[if_pos (.inl c4)];rfl,hE12⟩)
 refine zV (ZAw (decide_eq_false c4) _) ?_
 by_cases c5:r.keep<0\/50<r.keep
 ·refine zV (ZAw (decide_eq_true c5) _) ?_
  exact ZAB (ZAC rfl ⟨by rw[if_pos (.inr (.inl c5))];rfl,hE12⟩)
 refine zV (ZAw (decide_eq_false c5) _) ?_
 by_cases c6:r.ylo<1890\/2100<r.ylo
 ·refine zV (ZAw (decide_eq_true c6) _) ?_
  exact ZAB (ZAC rfl ⟨by rw[if_pos (.inr (.inr (.inl c6)))];rfl,hE12⟩)
 refine zV (ZAw (decide_eq_false c6) _) ?_
 by_cases c7:r.yhi<1890\/2100<r.yhi
 ·refine zV (ZAw (decide_eq_true c7) _) ?_
  exact ZAB (ZAC rfl ⟨by rw[if_pos (.inr (.inr (.inr c7)))];rfl,hE12⟩)
 refine zU (ZAw (decide_eq_false c7) _) ?_;rw[if_neg (by omega)];refine zy ?_;refine zC (ZBw rfl rfl) (fun c8=>?_) (fun c8=>?_)
 ·refine zy ?_
  exact ZAB (ZAC rfl ⟨by rw[if_pos c8];rfl,hE12⟩)
 refine zy ?_;exact ZAB (ZAC rfl ⟨by rw[if_neg c8];rfl,hE12⟩)
abbrev rowN (x:Nt):List Value:=[str x.who,i64 x.number,i64 x.rev,i64 x.kind,i64 x.frm,i64 x.til,i64 x.lo,i64 x.hi]
set_option maxHeartbeats 2000000 in
theorem ZIA {x:Nt}{h:Heap}(hn:x.who.length<=281474976710656):Sv Tryz.prog 27 [.agg ⟨rowN x⟩] h (RetP fun v h'=>v=i64 (ZA8 x)/\Ext h h'):=by
 refine ZA0 fun hw=>?_;refine ZAF Tryz.func27 rfl (by rw[Tryz.ntmps27];rfl) ?_;show Wc Tryz.prog ⟨27,79,none⟩ _ _ _ _ _;refine zy ?_;refine ZAv rfl rfl rfl fun h1 hE1 hW1 hg1 hn1=>?_;refine zy ?_;refine ZAH rfl rfl Zr.h Tsz.h rfl (fun _=>rfl) rfl rfl rfl fun h2 hE2 hW2 hg2 hn2=>?_;have k2:=hE2.get hg1;refine zy ?_;have cA:=ZHJ x.who h2 (by omega)
 by_cases c1:ZFg x.who=true
 rotate_left
 ·replace c1:=Bool.eq_false_iff.2 c1
  rw[c1] at cA;refine ZBe rfl rfl rfl rfl rfl Bod.h rfl rfl cA fun h3 hE3=>?_;refine zy ?_;exact ZAB (ZAC rfl ⟨by unfold ZA8;rw[if_pos c1];rfl,(hE1.trans hE2).trans hE3⟩)
 have e1:ZA8 x=if x.kind<1\/3<x.kind then 2 else if (x.number<1\/999<x.number)\/(x.rev<0\/99<x.rev)\/(x.frm<0\/199999<x.frm)\/(x.til<0\/199999<x.til)\/(x.lo<0\/400000<x.lo)\/(x.hi<0\/400000<x.hi) then 7 else if x.til<x.frm\/x.hi<x.lo\/(x.kind=1/\x.frm<x.til)\/(x.kind≠1/\0<x.hi) then 2 else 0:=by unfold ZA8;rw[if_neg (by rw[c1];decide)]
 rw[e1];rw[c1] at cA;refine ZBe rfl rfl rfl rfl rfl Bod.h rfl rfl cA fun h3 hE3=>?_;replace k2:=hE3.get k2;have k3:=hE3.get hg2;have hE:=(hE1.trans hE2).trans hE3;clear cA hg1 hg2 hE1 hE2 hE3 e1;refine zy ?_
 by_cases c2:x.kind<1\/3<x.kind
 ·refine zV (ZBJ (decide_eq_true c2) _) ?_
  exact ZAB (ZAC rfl ⟨by rw[if_pos c2];rfl,hE⟩)
 refine zU (ZBJ (decide_eq_false c2) _) ?_;rw[if_neg c2];refine zy ?_
 by_cases d1:x.number<1\/999<x.number
 ·refine zV (ZBJ (decide_eq_true d1) _) ?_
  exact ZAB (ZAC rfl ⟨by rw[if_pos (.inl d1)];rfl,hE⟩)
 refine zV (ZBJ (decide_eq_false d1) _) ?_
 by_cases d2:x.rev<0\/99<x.rev
 ·refine zV (ZBJ (decide_eq_true d2) _) ?_
  exact ZAB (ZAC rfl ⟨by rw[if_pos (.inr (.inl d2))];rfl,hE⟩)
 refine zV (ZBJ (decide_eq_false d2) _) ?_
 by_cases d3:x.frm<0\/199999<x.frm
 ·refine zV (ZBJ (decide_eq_true d3) _) ?_
  exact ZAB (ZAC rfl ⟨by rw[if_pos (.inr (.inr (.inl d3)))];rfl,hE⟩)
 refine zV (ZBJ (decide_eq_false d3) _) ?_
 by_cases d4:x.til<0\/199999<x.til
 ·refine zV (ZBJ (decide_eq_true d4) _) ?_
  exact ZAB (ZAC rfl ⟨by rw[if_pos (.inr (.inr (.inr (.inl d4))))];rfl,hE⟩)
 refine zV (ZBJ (decide_eq_false d4) _) ?_
 by_cases d5:x.lo<0\/400000<x.lo
 ·refine zV (ZBJ (decide_eq_true d5) _) ?_
  exact ZAB (ZAC rfl ⟨by rw[if_pos (.inr (.inr (.inr (.inr (.inl d5)))))];rfl,hE⟩)
 refine zV (ZBJ (decide_eq_false d5) _) ?_
 by_cases d6:x.hi<0\/400000<x.hi
 ·refine zV (ZBJ (decide_eq_true d6) _) ?_
  exact ZAB (ZAC rfl ⟨by rw[if_pos (.inr (.inr (.inr (.inr (.inr d6)))))];rfl,hE⟩)
 refine zU (ZBJ (decide_eq_false d6) _) ?_;rw[if_neg (by omega)];refine zy ?_;refine zC (ZBw rfl rfl) (fun f1=>?_) (fun f1=>?_)
 ·refine zy ?_
  exact ZAB (ZAC rfl ⟨by rw[if_pos (.inl f1)];rfl,hE⟩)
 refine zy ?_;refine zC (ZBw rfl rfl) (fun f2=>?_) (fun f2=>?_)
 ·refine zy ?_
  exact ZAB (ZAC rfl ⟨by rw[if_pos (.inr (.inl f2))];rfl,hE⟩)
 refine zy ?_
 by_cases f3:x.kind=1
 ·refine zD (A_tt f3 (ZBA rfl rfl)) ?_
  refine zC (ZAx rfl rfl) (fun f4=>?_) (fun f4=>?_)
  ·refine zy ?_
   exact ZAB (ZAC rfl ⟨by rw[if_pos (by omega)];rfl,hE⟩)
  refine zy ?_;refine zD (A_ff (fun q=>q f3) (ZA3 rfl rfl)) ?_;exact ZAB (ZAC rfl ⟨by rw[if_neg (by omega)];rfl,hE⟩)
 refine zD (A_ff f3 (ZBA rfl rfl)) ?_;refine zD (A_tt f3 (ZA3 rfl rfl)) ?_;refine zC (ZBw rfl rfl) (fun f4=>?_) (fun f4=>?_)
 ·refine zy ?_
  exact ZAB (ZAC rfl ⟨by rw[if_pos (by omega)];rfl,hE⟩)
 refine zy ?_;exact ZAB (ZAC rfl ⟨by rw[if_neg (by omega)];rfl,hE⟩)
end Go.Dw
