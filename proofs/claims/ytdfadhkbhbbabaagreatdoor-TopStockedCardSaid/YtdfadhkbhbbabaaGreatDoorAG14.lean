/- Z1: contracts: vault.out, odd, room, table, vapour, wet, may, share. -/
import Derived.Test.YtdfadhkbhbbabaaGreatDoorAG2
import Derived.Test.YtdfadhkbhbbabaaGreatDoorAG5
import Derived.Test.YtdfadhkbhbbabaaGreatDoorAG13
import Derived.Test.YtdfadhkbhbbabaaGreatDoorAG7
import Derived.Test.YtdfadhkbhbbabaaGreatDoorAG3
import Derived.Test.YtdfadhkbhbbabaaGreatDoorAG6
set_option linter.unusedVariables false
set_option linter.unusedSimpArgs false
namespace Go.Dw
open Go Go.Dx Go.Proofs
set_option maxRecDepth 100000
abbrev TabA {α:Type}(enc:α->List Value)(k:Nat)(h:Heap)(a:Option Addr)(l:List α):Prop:=ZBO k (fun _ row x=>row=enc x) h a l
theorem TabA.ext' {α:Type}{enc:α->List Value}{k:Nat}{h h':Heap}{a:Option Addr}{l:List α}(hl:TabA enc k h a l)(he:Ext h h'):TabA enc k h' a l:=ZBO.ext (fun hr _=>hr) hl he
abbrev ZB3 (x:Rm):List Value:=[str x.name,i64 x.tlo,i64 x.thi,i64 x.dlo,i64 x.dhi,.bool x.people,.bool x.allows,i64 x.most,i64 x.x,i64 x.y]
abbrev ZCz (x:Cn):List Value:=[str x.name,i64 x.base,i64 x.frames,i64 x.room]
abbrev ZBW (x:Mv):List Value:=[i64 x.hour,i64 x.can,i64 x.to]
abbrev rowP (x:Int×Int):List Value:=[i64 x.1,i64 x.2]
abbrev ZOJ (a b:Int):Value:=.agg ⟨[i64 a,i64 b]⟩
theorem ZAt {a lo hi:Int}{b:Bool}(hb:decide (a<lo\/hi<a)=b)(h:Heap):Sv Tryz.prog 27 [i64 a,i64 lo,i64 hi] h (RetP fun v h'=>v=.bool b/\h'=h):=by
 rw[<-hb];refine ZAG Tryz.func27 rfl (by rw[Tryz.ntmps27];rfl) ?_;show Wc Tryz.prog ⟨27,15,none⟩ _ _ _ _ _;refine zy ?_;refine zC (ZAU rfl rfl) (fun h1=>?_) (fun h1=>?_)
 ·refine zy ?_
  exact ZAC (ZAD rfl ⟨by rw[decide_eq_true (.inl h1)];rfl,rfl⟩)
 ·refine zy ?_
  refine zC (ZA4 rfl rfl) (fun h2=>?_) (fun h2=>?_)
  ·refine zy ?_
   exact ZAC (ZAD rfl ⟨by rw[decide_eq_true (.inr h2)];rfl,rfl⟩)
  ·refine zy ?_
   exact ZAC (ZAD rfl ⟨by rw[decide_eq_false (not_or.2 ⟨h1,h2⟩)];rfl,rfl⟩)
def oddS (a b lo hi:Int):Int:=if (a<lo\/hi<a)\/(b<lo\/hi<b) then 7 else if b<a then 2 else 0
theorem ZRP (a b lo hi:Int)(h:Heap):Sv Tryz.prog 77 [ZOJ a b,i64 lo,i64 hi] h (RetP fun v h'=>v=i64 (oddS a b lo hi)/\Ext h h'):=by
 refine ZA5 fun hw=>?_;unfold oddS;refine ZAG Tryz.func77 rfl (by rw[Tryz.ntmps77];rfl) ?_;show Wc Tryz.prog ⟨77,26,none⟩ _ _ _ _ _;refine zy ?_;refine ZAn rfl rfl rfl fun h1 hE1 hW1 hg1 hn1=>?_;refine zy ?_
 by_cases c1:a<lo\/hi<a
 ·refine zU (ZAt (decide_eq_true c1) _) ?_
  rw[if_pos (.inl c1)];refine zy ?_;exact ZAC (ZAD rfl ⟨rfl,hE1⟩)
 refine zV (ZAt (decide_eq_false c1) _) ?_
 by_cases c2:b<lo\/hi<b
 ·refine zU (ZAt (decide_eq_true c2) _) ?_
  rw[if_pos (.inr c2)];refine zy ?_;exact ZAC (ZAD rfl ⟨rfl,hE1⟩)
 refine zU (ZAt (decide_eq_false c2) _) ?_;rw[if_neg (by rintro (q|q);exact c1 q;exact c2 q)];refine zy ?_;refine zC (ZA4 rfl rfl) (fun c3=>?_) (fun c3=>?_)
 ·rw[if_pos c3]
  refine zy ?_;exact ZAC (ZAD rfl ⟨rfl,hE1⟩)
 ·rw[if_neg c3]
  refine zy ?_;exact ZAC (ZAD rfl ⟨rfl,hE1⟩)
def ZBm (x:Rm):Int :=
 if oddS x.tlo x.thi (-300) 600=7\/oddS x.dlo x.dhi 0 1000=7\/(x.most<0\/10000000<x.most)\/(x.x<0\/10000<x.x)\/(x.y<0\/10000<x.y) then 7
 else if oddS x.tlo x.thi (-300) 600≠0 then oddS x.tlo x.thi (-300) 600 else oddS x.dlo x.dhi 0 1000
theorem ZTn (x:Rm)(h:Heap):Sv Tryz.prog 73 [.agg ⟨ZB3 x⟩] h (RetP fun v h'=>v=i64 (ZBm x)/\Ext h h'):=by
 refine ZA5 fun hw=>?_;unfold ZBm;refine ZAG Tryz.func73 rfl (by rw[Tryz.ntmps73];rfl) ?_;show Wc Tryz.prog ⟨73,38,none⟩ _ _ _ _ _;refine zy ?_;refine ZAn rfl rfl rfl fun h1 hE1 hW1 hg1 hn1=>?_;refine zy ?_;generalize ht:oddS x.tlo x.thi (-300) 600=tt;generalize hd:oddS x.dlo x.dhi 0 1000=dd;refine ZAL hmix [0,1,3,0,8,31,63,127] [0,1,3,4] (some 2) [([],(some 5)),([],(some 6)),([],(some 7)),([],none)] (by kernel_rfl) (by kernel_rfl) ?_;refine z_f ?_;refine z_r ?_;refine z_f ?_;refine z_r ?_;refine ZAI [0,1] (by kernel_rfl) rfl (ZAA rfl) rfl nb rfl (ZAu (ZBJ rfl rfl rfl rfl rfl Bod.h (ZRP x.tlo x.thi (-300) 600 h1) (fun v2 h2 hv hW2=>?_)))
 obtain⟨rfl,hE2⟩:=hv;have hg2:=hE2.get hg1;refine ZAI [0,1,2,3,4] (by kernel_rfl) rfl (by refine t_r 4 ?_;refine t_f 3 ?_;exact ZAA rfl) rfl nb rfl (ZAu (ZBJ rfl rfl rfl rfl rfl Bod.h (ZRP x.dlo x.dhi 0 1000 h2) (fun v3 h3 hv hW3=>?_)));obtain⟨rfl,hE3⟩:=hv;have hg3:=hE3.get hg2;rw[ht,hd];refine ZAI [0,1,2,3,4,5] (by kernel_rfl) rfl (ZAA rfl) rfl nb rfl (ZCU rfl rfl (ZAj rfl) ?_);refine ZAI [0,1,2,3,4,5,6] (by kernel_rfl) rfl (ZAA rfl) rfl nb rfl (ZCU rfl rfl (ZAj rfl) ?_);refine ZAO (ZAA rfl) nb' ?_;have hE:=hE1.trans (hE2.trans hE3);refine zy ?_
 by_cases c1:tt=7
 ·refine zE (A_tt c1 (ZAg rfl rfl)) ?_
  rw[if_pos (.inl c1)];refine zy ?_;exact ZAC (ZAD rfl ⟨rfl,hE⟩)
 refine zD (A_ff c1 (ZAg rfl rfl)) ?_
 by_cases c2:dd=7
 ·refine zE (A_tt c2 (ZAg rfl rfl)) ?_
  rw[if_pos (.inr (.inl c2))];refine zy ?_;exact ZAC (ZAD rfl ⟨rfl,hE⟩)
 refine zD (A_ff c2 (ZAg rfl rfl)) ?_
 by_cases c3:x.most<0\/10000000<x.most
 ·refine zU (ZAt (decide_eq_true c3) _) ?_
  rw[if_pos (.inr (.inr (.inl c3)))];refine zy ?_;exact ZAC (ZAD rfl ⟨rfl,hE⟩)
 refine zV (ZAt (decide_eq_false c3) _) ?_
 by_cases c4:x.x<0\/10000<x.x
 ·refine zU (ZAt (decide_eq_true c4) _) ?_
  rw[if_pos (.inr (.inr (.inr (.inl c4))))];refine zy ?_;exact ZAC (ZAD rfl ⟨rfl,hE⟩)
 refine zV (ZAt (decide_eq_false c4) _) ?_
 by_cases c5:x.y<0\/10000<x.y
 ·refine zU (ZAt (decide_eq_true c5) _) ?_
  rw[if_pos (.inr (.inr (.inr (.inr c5))))];refine zy ?_;exact ZAC (ZAD rfl ⟨rfl,hE⟩)
 refine zU (ZAt (decide_eq_false c5) _) ?_;rw[if_neg (by rintro (q|q|q|q|q);exact c1 q;exact c2 q;exact c3 q;exact c4 q;exact c5 q)];refine zy ?_
 by_cases c6:tt=0
 ·refine zE (A_ff (fun q=>q c6) (ZAh rfl rfl)) ?_
  rw[if_neg (fun q=>q c6)];refine zy ?_;exact ZAC (ZAD rfl ⟨rfl,hE⟩)
 ·refine zE (A_tt c6 (ZAh rfl rfl)) ?_
  rw[if_pos c6];refine zy ?_;exact ZAC (ZAD rfl ⟨rfl,hE⟩)
theorem ZSg (h:Heap):Sv Tryz.prog 189 [] h (RetP fun v h'=>v=.agg ⟨ZBL.map i64⟩/\Ext h h'):=by
 refine ZA5 fun hw=>?_;refine ZAG Tryz.func189 rfl (by rw[Tryz.ntmps189];rfl) ?_;show Wc Tryz.prog ⟨189,2,none⟩ _ _ _ _ _;refine zy ?_;refine ZA2 rfl rfl Zr.h fun h1 hE1 hW1 hg1 hn1=>?_;refine zy ?_;refine zD (ZC5 (v:=.agg ⟨ZBL.map i64⟩) rfl (by kernel_rfl)) ?_;refine ZAf (r:=ZBL.map i64) rfl Tsz.h rfl rfl hg1 rfl rfl rfl fun h2 hU2=>?_;have hE2:=hU2.ext hE1 hw (Nat.le_refl _);refine zy ?_;exact ZAC (ZAD (ZBT rfl (ZBp RowC.h (ZAP hU2.at' rfl)) rfl) ⟨rfl,hE2⟩)
abbrev xZ20:List Nat:=[0,1,2,3,4,5,6,7,8,9,10,11,12,13]
section
variable {P:Program}{m:Mem}{h:Heap}{d:Option Tmp}{ty:TypeId}{pos:String}{af:Array Edge}{gu:Option (Nat×Bool)}
theorem ZVi {t:TypeId}{x:Operand}{a:Int}(hx:opk h m x=some (.int .i64 a))(h0:-9223372036854775808<a)(h1:a<9223372036854775808):Aop P ⟨d,.unOp .neg t x,ty,pos,af,gu⟩ m h (.int .i64 (-a)) h:=by
 refine ZL9 hx rfl rfl fun ev w h2=>?_;have hw:IntKind.i64.wrap (0-a) = -a:=by rw[show (0:Int)-a = -a by omega];exact IntWalk.i64_in _ (by omega)
 simp only[execOp,h2];have hq:(Op.unary .neg (.int .i64 a)).run P w=.ok (.int .i64 (-a)) w:=by
  show (Op.intArith .sub .i64 0 a).run P w=_
  simp only[Op.intArith,hw];rfl
 simp only[Sem.run_bind,hq,Result.andThen_ok,Sem.run_pure]
theorem ZQD {t el:TypeId}{x i:Operand}{b n0 k sz:Nat}{kj:IntKind}{z:Int}(ht:P.underlying t=some (.array n0 el))(hz:tsz P el=some sz)(hk:k<n0)(hx:opk h m x=some (.pointer (some ⟨b,0,none⟩)))(hi:opk h m i=some (.int kj z))(hz2:z=(k:Int)) :
  Aop P ⟨d,.slice t x (some i) none none,ty,pos,af,gu⟩ m h (.slice (some ⟨b,k*sz,none⟩) (n0-k) (n0-k)) h:=by
 subst hz2;refine ZAe fun e hs=>?_;have hsb:sb n0 n0 (some (.int kj (k:Int))) none none=some (k,n0,n0):=by
  show sb n0 n0 (some (.int kj (Int.ofNat k))) none none=_
  have hb2:Nat.ble k n0=true:=Nat.ble_eq_true_of_le (by omega);have c3:bnd (some (.int kj (Int.ofNat k))) 0 n0=some k:=by simp only[bnd,ZEA,hb2]
  have c1:bnd none n0 n0=some n0:=rfl;simp only[sb,c1,c3]
 have ha:ZCY P t (.pointer (some ⟨b,0,none⟩)) (some (.int kj (k:Int))) none none=some (.slice (some ⟨b,k*sz,none⟩) (n0-k) (n0-k)):=by
  unfold ZCY;rw[ht];simp only;rw[hsb,hz];simp only;have hb:Nat.beq n0 k=false:=by
   cases hq:Nat.beq n0 k with
   | false=>rfl
   | true=>exact absurd (Nat.eq_of_beq_eq_true hq) (by omega)
  rw[hb]
  show some (Value.slice (some ⟨b,Nat.add 0 (Nat.mul k sz),none⟩) (n0-k) (n0-k))=_
  rw[show Nat.add 0 (Nat.mul k sz)=k*sz from Nat.zero_add _]
 show ZDB P _ h e t x (some i) none none=_
 unfold ZDB;simp only[ZAM hs hx,opvo,ZAM hs hi,ha]
end
theorem ZC8 {n r:Int}(hn:-1000000<=n/\n<=1000000)(hr:0<=r/\r<=100)(h:Heap):Sv Tryz.prog 190 [i64 n,i64 r] h (RetP fun v h'=>v=i64 (ZCD n r)/\h'=h):=by
 have hb:-100000000<=n*r/\n*r<=100000000:=by
  constructor
  ·have:=Int.mul_le_mul_of_nonneg_right hn.1 hr.1
   have h2:-1000000*100 <= -1000000*r:=Int.mul_le_mul_of_nonpos_left (by decide) hr.2;omega
  ·have:=Int.mul_le_mul_of_nonneg_right hn.2 hr.1
   have h2:1000000*r<=1000000*100:=Int.mul_le_mul_of_nonneg_left hr.2 (by decide);omega
 unfold ZCD;refine ZAG Tryz.func190 rfl (by rw[Tryz.ntmps190];rfl) ?_;show Wc Tryz.prog ⟨190,16,none⟩ _ _ _ _ _;refine zy ?_;refine zE (ZF5 rfl rfl (by omega) (by omega)) ?_;generalize n*r=q at *;refine zy ?_;refine zC (ZAU rfl rfl) (fun hq=>?_) (fun hq=>?_)
 ·rw[if_pos hq]
  have e:(99-q).tdiv 100=(99-q) / 100:=Int.tdiv_eq_ediv_of_nonneg (by omega);rw[e];refine zy ?_;refine zD (ZHi rfl rfl (by omega) e (by omega) (by omega)) ?_;refine zD (ZVi rfl (by omega) (by omega)) ?_;exact ZAC (ZAD rfl ⟨rfl,rfl⟩)
 ·rw[if_neg hq]
  have e:q.tdiv 100=q / 100:=Int.tdiv_eq_ediv_of_nonneg (by omega);rw[e];refine zy ?_;refine zD (ZHi rfl rfl (by omega) e (by omega) (by omega)) ?_;exact ZAC (ZAD rfl ⟨rfl,rfl⟩)
set_option maxHeartbeats 1000000 in
theorem ZLj {t:Int}(h0:-300<=t)(h1:t<=600)(h:Heap):Sv Tryz.prog 161 [i64 t] h (RetP fun v h'=>v=i64 (vapS t)/\Ext h h'):=by
 refine ZA5 fun hw=>?_;unfold vapS;obtain⟨n,hn⟩:∃n:Nat,t+300=n:=⟨(t+300).toNat,by omega⟩;have hn':(t+300).toNat=n:=by omega
 rw[hn'];have hd:(t - -300).tdiv 50=((n / 50:Nat):Int):=by rw[show t - -300=(n:Int) by omega];rfl
 have hr:(t - -300).tmod 50=((n % 50:Nat):Int):=by rw[show t - -300=(n:Int) by omega];rfl
 have hk:n / 50<19:=by omega
 obtain⟨a1,a2⟩:=ZFO (n / 50);obtain⟨b1,b2⟩:=ZFO (n / 50+1);refine ZAG Tryz.func161 rfl (by rw[Tryz.ntmps161];rfl) ?_;show Wc Tryz.prog ⟨161,33,none⟩ _ _ _ _ _;refine zy ?_;refine zW (ZSg h) fun g1 hE1=>?_;refine ZBC fun hW1=>?_;refine zy ?_;refine ZAJ rfl rfl Zr.h Tsz.h rfl (fun _=>rfl) rfl rfl rfl fun h2 hE2 hW2 hg2 hn2=>?_;replace hE2:=hE1.trans hE2
 have hget:∀k,k<19->ZAS h2 g1.nx k=some (i64 (ZBL.getD k 0)):=fun k hk=>ZAb hg2 (by
  show nth (ZBL.map i64) k=_
  rw[ZAv,List.getElem?_map,List.getElem?_eq_getElem (by simp[ZBL];omega),List.getD_eq_getElem?_getD,List.getElem?_eq_getElem (by simp[ZBL];omega)];rfl)
 clear hg2;generalize g1.nx=bt at *;have hc0:=hget (n / 50) hk;refine zy ?_;refine zD (ZHi rfl rfl (by decide) hd (by omega) (by omega)) ?_;refine zD (ZQD (k:=n / 50) Und.h Tsz.h hk rfl rfl rfl) ?_;refine zE (ZVS rfl rfl (by decide)) ?_;rw[hr,Nat.mul_one];refine zy ?_
 by_cases hz:n % 50=0
 ·rw[if_pos hz]
  refine zD (A_tt (by omega) (ZAg rfl rfl)) ?_;refine zE (ZAE (k:=0) Und.h Tsz.h rfl rfl rfl (by omega)) ?_;have hc:ZAS h2 bt (n / 50+0*1)=some (i64 (ZBL.getD (n / 50) 0)):=hc0;refine zy ?_;exact ZAC (ZAD rfl ⟨rfl,hE2⟩)
 rw[if_neg hz];refine zE (A_ff (by omega) (ZAg rfl rfl)) ?_;have hk2:n / 50<18:=by omega
 have hu:=ZKZ hk2;have hc1:=hget (n / 50+1) (by omega);have hc:ZAS h2 bt (n / 50+0*1)=some (i64 (ZBL.getD (n / 50) 0)):=hc0;have hc':ZAS h2 bt (n / 50+1*1)=some (i64 (ZBL.getD (n / 50+1) 0)):=hc1;clear hget hc0 hc1;generalize ZBL.getD (n / 50) 0=p at *;generalize ZBL.getD (n / 50+1) 0=q at *;have hm:0<=(q-p)*((n % 50:Nat):Int)/\(q-p)*((n % 50:Nat):Int)<=6510000:=by
  refine⟨Int.mul_nonneg (by omega) (Int.natCast_nonneg _),?_⟩;exact Int.mul_le_mul (show q-p<=130200 by omega) (show ((n % 50:Nat):Int)<=50 by omega) (Int.natCast_nonneg _) (by decide)
 have hq:((q-p)*((n % 50:Nat):Int)).tdiv 50=((q-p)*((n % 50:Nat):Int)) / 50:=Int.tdiv_eq_ediv_of_nonneg hm.1;rw[hq];refine zy ?_;refine ZAL hmix [0,1,3,0,8,24,0,64,192,504,0,2040,4088,8191,16383] xZ20 (some 14) [([],none)] (by kernel_rfl) (by kernel_rfl) ?_;refine z_m ?_;refine ZAB rfl rfl rfl rfl rfl (fun _=>ZAE (k:=0) Und.h Tsz.h rfl rfl rfl (by omega)) ?_;refine z_l ?_;refine z_m ?_;refine ZAB rfl rfl rfl rfl rfl (fun _=>ZAE (k:=1) Und.h Tsz.h rfl rfl rfl (by omega)) ?_;refine z_l ?_;refine z_m ?_;refine ZAB rfl rfl rfl rfl rfl (fun _=>ZAE (k:=0) Und.h Tsz.h rfl rfl rfl (by omega)) ?_;refine z_l ?_;refine z_u ?_;refine z_m ?_;refine ZAB rfl rfl rfl rfl rfl (fun _=>ZF5 rfl rfl (by omega) (by omega)) ?_;refine ZAB rfl rfl rfl rfl rfl (fun _=>ZHi rfl rfl (by decide) hq (by omega) (by omega)) ?_;refine z_y ?_
 refine ZAI xZ20 (by kernel_rfl) rfl (ZAA rfl) rfl nb rfl (ZCU rfl rfl (ZAj rfl) ?_);refine ZAO (ZAA rfl) nb' ?_;refine zy ?_;exact ZAC (ZAD rfl ⟨rfl,hE2⟩)
theorem ZU4 {own temp damp:Int}(h0:-300<=own/\own<=600)(h1:-300<=temp/\temp<=600)(h2:0<=damp/\damp<=1000)(h:Heap):Sv Tryz.prog 130 [i64 own,i64 temp,i64 damp] h (RetP fun v h'=>v=.bool (wetS own temp damp)/\Ext h h'):=by
 refine ZA5 fun hw=>?_;unfold wetS;have e1:=ZLj h1.1 h1.2;have e0:=ZLj h0.1 h0.2;have b1:=ZQN h1.1 h1.2;have b0:=ZQN h0.1 h0.2;generalize vapS temp=p at *;generalize vapS own=q at *;have hm:0<=damp*p/\damp*p<=400000000:=⟨Int.mul_nonneg h2.1 b1.1,Int.mul_le_mul h2.2 b1.2 b1.1 (by decide)⟩;refine ZAG Tryz.func130 rfl (by rw[Tryz.ntmps130];rfl) ?_;show Wc Tryz.prog ⟨130,15,none⟩ _ _ _ _ _;refine zy ?_;refine zW (e1 h) fun g1 hE1=>?_;refine zy ?_;refine zD (ZF5 rfl rfl (by omega) (by omega)) ?_;refine zW (e0 g1) fun g2 hE2=>?_;refine zy ?_;refine zD (ZF5 rfl rfl (by omega) (by omega)) ?_;refine zD (ZA4 rfl rfl) ?_
 exact ZAC (ZAD rfl ⟨rfl,hE1.trans hE2⟩)
theorem ZTQ {t:Int×Int}{r:Rm}(h0:-300<=t.1/\t.1<=600)(h1:-300<=r.thi/\r.thi<=600)(h2:0<=r.dhi/\r.dhi<=1000)(h:Heap):Sv Tryz.prog 82 [ZOJ t.1 t.2,.agg ⟨ZB3 r⟩] h (RetP fun v h'=>v=.bool (mayS t r)/\Ext h h'):=by
 refine ZA5 fun hw=>?_;unfold mayS;refine ZAG Tryz.func82 rfl (by rw[Tryz.ntmps82];rfl) ?_;show Wc Tryz.prog ⟨82,14,none⟩ _ _ _ _ _;refine zy ?_;refine ZAn rfl rfl rfl fun g1 hE1 hW1 hg1 hn1=>?_;refine zy ?_;refine ZAn rfl rfl rfl fun g2 hE2 hW2 hg2 hn2=>?_;have k1:=hE2.get hg1;refine zy ?_;refine zW (ZU4 h0 h1 h2 g2) fun g3 hE3=>?_;refine zy ?_;exact ZAC (ZAD rfl ⟨rfl,hE1.trans (hE2.trans hE3)⟩)
structure SAd where
 ar:Option Addr
 cr:Nat
 ac:Option Addr
 cc:Nat
 ast:Option Addr
 cst:Nat
structure SiAt (h:Heap)(s:Si)(d:SAd):Prop where
 r:TabA ZB3 10 h d.ar s.rooms
 c:TabA ZCz 4 h d.ac s.cans
 s:TabA rowP 2 h d.ast s.steps
theorem SiAt.ext {h h':Heap}{s:Si}{d:SAd}(a:SiAt h s d)(he:Ext h h'):SiAt h' s d:=⟨a.r.ext' he,a.c.ext' he,a.s.ext' he⟩
abbrev ZFh (s:Si)(d:SAd):List Value:=[.slice d.ar s.rooms.length d.cr,.slice d.ac s.cans.length d.cc,i64 s.rlo,i64 s.rhi,.slice d.ast s.steps.length d.cst]
abbrev ZLP (s:Si)(d:SAd)(kv:Value):List Value:=[.slice d.ar s.rooms.length d.cr,.slice d.ac s.cans.length d.cc,i64 s.rlo,i64 s.rhi,.slice d.ast s.steps.length d.cst,kv]
abbrev vtT:TypeId:=71
structure VtAt (h:Heap)(bv:Nat)(s:Si)(d:SAd)(ak:Option Addr)(ck:Nat)(kept:List Mv):Prop where
 g:h.get bv=some (.cells (ZLP s d (.slice ak kept.length ck)) vtT false)
 s:SiAt h s d
 k:TabA ZBW 3 h ak kept
theorem VtAt.ext {h h':Heap}{bv:Nat}{s:Si}{d:SAd}{ak:Option Addr}{ck:Nat}{kept:List Mv}(a:VtAt h bv s d ak ck kept)(he:Ext h h'):VtAt h' bv s d ak ck kept:=⟨he.get a.g,a.s.ext he,a.k.ext' he⟩
structure Cans (n:Nat)(cans:List Cn):Prop where
 len:cans.length<=30
 room:∀c∈cans,0<=c.room/\c.room<n
 frames:∀c∈cans,1<=c.frames/\c.frames<=200000
structure Mvs (nc nr:Nat)(l:List Mv):Prop where
 len:l.length<=60
 hour:∀m∈l,0<=m.hour/\m.hour<=2400
 can:∀m∈l,0<=m.can/\m.can<nc
 to:∀m∈l,0<=m.to/\m.to<nr
def whr1 (cans:List Cn)(k:Nat):List Int:=(cans.take k).map Cn.room++List.replicate (cans.length-k) 0
theorem ZSe (cans:List Cn){k:Nat}(hk:k<=cans.length):(whr1 cans k).length=cans.length:=by
 unfold whr1;rw[List.length_append,List.length_map,List.length_take,List.length_replicate];omega
theorem ZRy {cans:List Cn}{k:Nat}(hk:k<cans.length):(whr1 cans k).set k cans[k].room=whr1 cans (k+1):=by
 unfold whr1;have hl:((cans.take k).map Cn.room).length=k:=by rw[List.length_map,List.length_take];omega
 rw[List.set_append_right _ _ (by omega),hl,Nat.sub_self,show cans.length-k=(cans.length-(k+1))+1 by omega,List.replicate_succ,List.set_cons_zero,List.take_add_one,List.getElem?_eq_getElem hk,Option.toList_some,List.map_append,List.append_assoc]
 rfl
theorem ZTG (cans:List Cn):whr1 cans cans.length=cans.map Cn.room:=by
 unfold whr1;rw[List.take_length,Nat.sub_self];simp
theorem ZHf (w:List Int)(k:Nat)(x:Int):(w.map i64).set k (i64 x)=(w.set k x).map i64:=by rw[List.map_set]
set_option maxHeartbeats 2000000 in
theorem ZJ6 {h:Heap}{bv:Nat}{s:Si}{d:SAd}{ak:Option Addr}{ck:Nat}{kept:List Mv}{hr:Int}(hV:VtAt h bv s d ak ck kept)(hc:s.cans.length<=30)(hk:kept.length<=60)(hm:∀m∈kept,0<=m.can/\m.can<s.cans.length) :
  Sv Tryz.prog 28 [.pointer (some ⟨bv,0,none⟩),i64 hr] h (RetP fun v h'=>Ext h h'/\∃b,v=.slice (some ⟨b,0,none⟩) s.cans.length s.cans.length/\h.nx<=b/\h'.get b=some (.cells ((whrS s.cans kept hr).map i64) 3 false)):=by
 refine ZA5 fun hw=>?_;obtain⟨ar,cr,ac,cc,ast,cst⟩:=d;have hg:=hV.g;refine ZAG Tryz.func28 rfl (by rw[Tryz.ntmps28];rfl) ?_;show Wc Tryz.prog ⟨28,55,none⟩ _ _ _ _ _;refine zy ?_;refine ZEN (by':=8) (k:=s.cans.length) (n:=(s.cans.length:Nat)) rfl rfl Und.h inferInstance Zr.h rfl rfl rfl (by omega) (by omega) fun h1 hE1 hW1 hg1 hn1=>?_;have er:rep s.cans.length (Value.int .i64 0).cells.toList=(whr1 s.cans 0).map i64:=by
  unfold whr1;rw[List.take_zero,List.map_nil,List.nil_append,Nat.sub_zero,List.map_replicate];exact ZJR _ _
 rw[er] at hg1;have hO1:=(Own.nil h h).newCe hw (Nat.le_refl _) hE1 hg1 (Nat.le_refl _);generalize hbq:h.nx=b5 at hO1 hg1 ⊢;have k1:=hE1.get hg;refine zy ?_;refine ZAN (fun (k:Nat) m ds h'=>ds=[]/\Ext h h'/\k<=s.cans.length/\Own h h' [ceI b5 ((whr1 s.cans k).map i64) 3 false]/\AllK m [(0,.pointer (some ⟨bv,0,none⟩)),(1,i64 hr),(5,.slice (some ⟨b5,0,none⟩) s.cans.length s.cans.length),(21,.slice ac s.cans.length cc),(22,i64 s.cans.length),(23,i64 (k:Nat))]) (fun k=>s.cans.length-k) 0 ?_ ?_
 ·exact⟨rfl,hE1,Nat.zero_le _,hO1,rfl,rfl,rfl,rfl,rfl,rfl,trivial⟩
 clear hO1 hE1 hW1 hg1 hn1 k1;rintro k m ds h2 ⟨rfl,hE2,hkl,hO2,hall⟩;refine Wc.le (ZBR fun hW2=>?_) (Le.kn hall);clear hall;refine zy ?_;refine zC (ZAU rfl rfl) (fun hlt=>?_) (fun hlt=>?_)
 ·have hk':k<s.cans.length:=by omega
  obtain⟨b,o,oa,eac,row,hrow,hxr⟩:=hV.s.c k hk';have hws:=ZRy hk';have hwl:=ZSe s.cans (k:=k) (by omega);generalize s.cans[k]=c at *;have hx':row=ZCz c:=hxr;subst hx';replace eac:ac=some ⟨b,o,oa⟩:=eac;subst eac;have hrow2:=hE2.row hrow;refine zy ?_;refine zD (A_ix Und.h Tsz.h rfl rfl) ?_;refine ZA2 rfl rfl Zr.h fun hx hEx hWx hgx hnx=>?_;refine zy ?_;refine ZAf rfl Tsz.h rfl rfl hgx rfl rfl rfl fun h3 hU3=>?_;have hE23:Ext h2 h3:=hU3.ext hEx hW2 (Nat.le_refl _);have hO3:=hO2.ext hE23;have g3:=hU3.at';have hE3:=hE2.trans hE23;refine zy ?_;refine zD (ZAE (k:=k) Und.h Tsz.h rfl rfl rfl hk') ?_;refine ZB6 (r:=(whr1 s.cans (k+1)).map i64) hw hE3 rfl Tsz.h rfl rfl hO3 rfl rfl (by rw[Nat.zero_add,Nat.mul_one,<-hws,<-ZHf];exact ZCH (by rw[List.length_map];omega)) fun h4 hW4 hO4 hE4=>?_
  refine zy ?_;exact⟨k+1,(by show s.cans.length-(k+1)<s.cans.length-k;omega),rfl,hE4,hk',hO4,rfl,rfl,rfl,rfl,rfl,rfl,trivial⟩
 have hkn:k=s.cans.length:=by omega
 rw[hkn,ZTG] at hO2;have k2:=hE2.get hg;refine zy ?_;refine ZAN (fun (j:Nat) m ds h'=>ds=[]/\Ext h h'/\j<=kept.length/\Own h h' [ceI b5 ((whrS s.cans (kept.take j) hr).map i64) 3 false]/\AllK m [(1,i64 hr),(5,.slice (some ⟨b5,0,none⟩) s.cans.length s.cans.length),(37,.slice ak kept.length ck),(38,i64 kept.length),(39,i64 (j:Nat))]) (fun j=>kept.length-j) 0 ?_ ?_
 ·exact⟨rfl,hE2,Nat.zero_le _,hO2,rfl,rfl,rfl,rfl,rfl,trivial⟩
 clear hO2 hE2 hW2 k2 hkn hlt hkl;rintro j m ds h2 ⟨rfl,hE2,hjl,hO2,hall⟩;refine Wc.le (ZBR fun hW2=>?_) (Le.kn hall);clear hall;refine zy ?_;refine zC (ZAU rfl rfl) (fun hlt=>?_) (fun hlt=>?_);rotate_left
 ·have hjn:j=kept.length:=by omega
  rw[hjn,List.take_length] at hO2;refine zy ?_;exact ZAC (ZAD rfl ⟨hE2,b5,rfl,Nat.le_refl _,hO2.p1⟩)
 have hj':j<kept.length:=by omega
 obtain⟨b,o,oa,eak,row,hrow,hx⟩:=hV.k j hj';have hmj:=hm _ (List.getElem_mem hj');have htk:kept.take (j+1)=kept.take j++[kept[j]]:=by rw[List.take_add_one,List.getElem?_eq_getElem hj'];rfl
 have hwl:=ZFj s.cans (kept.take j) hr;have hws:=ZLd s.cans (kept.take j) kept[j] hr;rw[<-htk] at hws;generalize kept[j]=c at *;have hx':row=ZBW c:=hx;subst hx';subst eak;have hrow2:=hE2.row hrow;generalize whrS s.cans (kept.take j) hr=W at *;refine zy ?_;refine zD (A_ix Und.h Tsz.h rfl rfl) ?_;refine ZAJ rfl rfl Zr.h Tsz.h rfl (fun _=>rfl) rfl rfl rfl fun h3 hE3 hW3 hg3 hn3=>?_;have hO3:=hO2.ext hE3;replace hE3:=hE2.trans hE3;refine zy ?_;refine zC (ZEL rfl rfl) (fun hle=>?_) (fun hle=>?_)
 ·have e2:whrS s.cans (kept.take (j+1)) hr=W.set c.can.toNat c.to:=by rw[hws];unfold ZCw;rw[if_pos hle]
  refine zy ?_;refine zD (ZAE (k:=c.can.toNat) Und.h Tsz.h rfl rfl (by omega) (by omega)) ?_;refine ZB6 (r:=(W.set c.can.toNat c.to).map i64) hw hE3 rfl Tsz.h rfl rfl hO3 rfl rfl (by rw[Nat.zero_add,Nat.mul_one,<-ZHf];exact ZCH (by rw[List.length_map];omega)) fun h4 hW4 hO4 hE4=>?_;rw[<-e2] at hO4;refine zy ?_;exact⟨j+1,(by show kept.length-(j+1)<kept.length-j;omega),rfl,hE4,hj',hO4,rfl,rfl,rfl,rfl,rfl,trivial⟩
 ·have e2:whrS s.cans (kept.take (j+1)) hr=W:=by rw[hws];unfold ZCw;rw[if_neg hle]
  rw[<-e2] at hO3;refine zy ?_;exact⟨j+1,(by show kept.length-(j+1)<kept.length-j;omega),rfl,hE3,hj',hO3,rfl,rfl,rfl,rfl,rfl,trivial⟩
abbrev xZ41:List Nat:=[0,1,2,3,4,5,6,7,8,9,10]
theorem ZPq {n:Nat}{cans:List Cn}{w:List Int}(hw:InR n w)(hl:w.length=cans.length)(hc:∀c∈cans,1<=c.frames/\c.frames<=200000){k:Nat}(hk:k<=cans.length){r:Nat}(hr:r<n):0<=(amtK n cans w k).getD r 0/\(amtK n cans w k).getD r 0<=200000*(k:Int):=by
 rw[ZJw hw hr k (by omega)];exact ZHu hc w r k hk
theorem ZBU {A:List Int}{h:Heap}{b r:Nat}{t:TypeId}{op:Bool}(hg:h.get b=some (.cells (A.map i64) t op))(hr:r<A.length):ZAS h b (0+r*1)=some (i64 (A.getD r 0)):=ZAb hg (by
 rw[ZAv,Nat.zero_add,Nat.mul_one,List.getElem?_map,List.getElem?_eq_getElem hr,List.getD_eq_getElem?_getD,List.getElem?_eq_getElem hr];rfl)
set_option maxHeartbeats 2000000 in
theorem ZIu {h:Heap}{bv:Nat}{s:Si}{d:SAd}{ak:Option Addr}{ck:Nat}{kept:List Mv}{w:List Int}{aw:Option Addr}{cw:Nat}(hV:VtAt h bv s d ak ck kept)(hn:s.rooms.length<=12)(hc:Cans s.rooms.length s.cans)(hW:ZAi i64 h aw w)(hw:InR s.rooms.length w)(hl:w.length=s.cans.length) :
  Sv Tryz.prog 81 [.pointer (some ⟨bv,0,none⟩),.slice aw w.length cw] h (RetP fun v h'=>Ext h h'/\∃b,v=.slice (some ⟨b,0,none⟩) s.rooms.length s.rooms.length/\h.nx<=b/\h'.get b=some (.cells ((amtS s.rooms.length s.cans w).map i64) 3 false)):=by
 refine ZA5 fun hwf=>?_;obtain⟨ar,cr,ac,cc,ast,cst⟩:=d;have hg:=hV.g;have hcl:=hc.len;refine ZAG Tryz.func81 rfl (by rw[Tryz.ntmps81];rfl) ?_;show Wc Tryz.prog ⟨81,42,none⟩ _ _ _ _ _;refine zy ?_;refine ZEN (by':=8) (k:=s.rooms.length) (n:=(s.rooms.length:Nat)) rfl rfl Und.h inferInstance Zr.h rfl rfl rfl (by omega) (by omega) fun h1 hE1 hW1 hg1 hn1=>?_;have er:rep s.rooms.length (Value.int .i64 0).cells.toList=(amtK s.rooms.length s.cans w 0).map i64:=by
  show _=(List.replicate _ (0:Int)).map i64
  rw[List.map_replicate];exact ZJR _ _
 rw[er] at hg1;have hO1:=(Own.nil h h).newCe hwf (Nat.le_refl _) hE1 hg1 (Nat.le_refl _);generalize hbq:h.nx=b5 at hO1 hg1 ⊢;have k1:=hE1.get hg;refine zy ?_;refine ZAN (fun (k:Nat) m ds h'=>ds=[]/\Ext h h'/\k<=s.cans.length/\Own h h' [ceI b5 ((amtK s.rooms.length s.cans w k).map i64) 3 false]/\AllK m [(1,.slice aw w.length cw),(5,.slice (some ⟨b5,0,none⟩) s.rooms.length s.rooms.length),(19,.slice ac s.cans.length cc),(20,i64 s.cans.length),(21,i64 (k:Nat))]) (fun k=>s.cans.length-k) 0 ?_ ?_
 ·exact⟨rfl,hE1,Nat.zero_le _,hO1,rfl,rfl,rfl,rfl,rfl,trivial⟩
 clear hO1 hE1 hW1 hg1 hn1 k1;rintro k m ds h2 ⟨rfl,hE2,hkl,hO2,hall⟩;refine Wc.le (ZBR fun hW2=>?_) (Le.kn hall);clear hall;refine zy ?_;refine zC (ZAU rfl rfl) (fun hlt=>?_) (fun hlt=>?_);rotate_left
 ·have hkn:k=s.cans.length:=by omega
  rw[hkn] at hO2;refine zy ?_;exact ZAC (ZAD rfl ⟨hE2,b5,rfl,Nat.le_refl _,hO2.p1⟩)
 have hk':k<s.cans.length:=by omega
 obtain⟨b,o,oa,eac,row,hrow,hxr⟩:=hV.s.c k hk';obtain⟨bw,ow,oaw,ew,hcw⟩:=hW k (by omega);have hst:amtK s.rooms.length s.cans w (k+1)=ZCy (amtK s.rooms.length s.cans w k) (s.cans.getD k default) (w.getD k 0):=rfl;have hcm:=hc.frames _ (List.getElem_mem hk');have eg:s.cans.getD k default=s.cans[k]:=by rw[List.getD_eq_getElem?_getD,List.getElem?_eq_getElem hk'];rfl
 have egw:w.getD k 0=w[k]'(by omega):=by rw[List.getD_eq_getElem?_getD,List.getElem?_eq_getElem (by omega)];rfl
 have hwm:=hw _ (List.getElem_mem (show k<w.length by omega));rw[eg,egw] at hst;have hal:=ZDm s.rooms.length s.cans w k;have hbd:=fun {r} (hr:r<s.rooms.length)=>ZPq hw hl hc.frames (k:=k) (by omega) hr;generalize s.cans[k]=c at *;generalize w[k]'(by omega)=q at *;generalize amtK s.rooms.length s.cans w k=A at *;have hx':row=ZCz c:=hxr;subst hx';replace eac:ac=some ⟨b,o,oa⟩:=eac;subst eac;subst ew;have hrow2:=hE2.row hrow;have hcw2:=hE2.cell hcw;refine zy ?_;refine zD (A_ix Und.h Tsz.h rfl rfl) ?_;refine ZA2 rfl rfl Zr.h fun hx hEx hWx hgx hnx=>?_;refine zy ?_;refine ZAf rfl Tsz.h rfl rfl hgx rfl rfl rfl fun h3 hU3=>?_
 have hE23:Ext h2 h3:=hU3.ext hEx hW2 (Nat.le_refl _);have hO3:=hO2.ext hE23;have g3:=hU3.at';have hE3:=hE2.trans hE23;have hcw3:=hE23.cell hcw2;clear hEx hWx hgx hnx hU3 hrow2 hcw2;refine zy ?_
 by_cases hb:c.base=1
 rotate_left
 ·refine zE (A_ff hb (ZAg rfl rfl)) ?_
  have e2:amtK s.rooms.length s.cans w (k+1)=A:=by rw[hst];unfold ZCy;rw[if_neg hb]
  rw[<-e2] at hO3;refine zy ?_;exact⟨k+1,(by show s.cans.length-(k+1)<s.cans.length-k;omega),rfl,hE3,hk',hO3,rfl,rfl,rfl,rfl,rfl,trivial⟩
 refine zE (A_tt hb (ZAg rfl rfl)) ?_;have e2:amtK s.rooms.length s.cans w (k+1)=A.set q.toNat (A.getD q.toNat 0+c.frames):=by rw[hst];unfold ZCy;rw[if_pos hb]
 have hqn:q.toNat<s.rooms.length:=by omega
 obtain⟨v1,v2⟩:=hbd hqn;have hcell:=ZBU hO3.p1 (r:=q.toNat) (by omega);generalize A.getD q.toNat 0=z at *;have g3':h3.get h2.nx=some (.cells (ZCz c) 41 false):=g3;refine zy ?_;refine ZAL hmix [0,0,0,6,14,31,63,0,128,511,1023,2047] xZ41 (some 11) [([],none)] (by kernel_rfl) (by kernel_rfl) ?_;refine z_m ?_;refine z_m ?_;refine z_m ?_;refine ZAB rfl rfl rfl rfl rfl (fun _=>ZAE (k:=k) Und.h Tsz.h rfl rfl rfl (by omega)) ?_;refine z_l ?_;refine ZAB rfl rfl rfl rfl rfl (fun _=>ZAE (k:=q.toNat) Und.h Tsz.h rfl rfl (by omega) (by omega)) ?_;refine z_l ?_;refine z_f ?_;refine z_l ?_;refine z_y ?_;refine ZAB rfl rfl rfl rfl rfl (fun _=>ZAE (k:=q.toNat) Und.h Tsz.h rfl rfl (by omega) (by omega)) ?_
 refine ZAI xZ41 (by kernel_rfl) rfl (ZAA rfl) rfl nb rfl (ZAu (ZHl (r:=(A.set q.toNat (z+c.frames)).map i64) rfl hwf hE3 rfl Tsz.h rfl rfl hO3 rfl rfl (by rw[Nat.zero_add,Nat.mul_one,<-ZHf];exact ZCH (by rw[List.length_map];omega)) (fun h4 hO4 hE4 hw4=>?_)));refine ZAO (ZAA rfl) nb' ?_;rw[<-e2] at hO4;refine zy ?_;exact⟨k+1,(by show s.cans.length-(k+1)<s.cans.length-k;omega),rfl,hE4,hk',hO4,rfl,rfl,rfl,rfl,rfl,trivial⟩
abbrev xZ50:List Nat:=[0,1,0,0,12,28,63]
abbrev xZ51:List Nat:=[0,1,2,3,4,5,6]
structure Si.Ok (s:Si):Prop where
 rlen:1<=s.rooms.length/\s.rooms.length<=12
 rt:∀r∈s.rooms,(-300<=r.tlo/\r.tlo<=r.thi/\r.thi<=600)/\(0<=r.dlo/\r.dlo<=r.dhi/\r.dhi<=1000)
 rm:∀r∈s.rooms,(0<=r.most/\r.most<=10000000)/\(0<=r.x/\r.x<=10000)/\(0<=r.y/\r.y<=10000)
 cans:Cans s.rooms.length s.cans
 rate:1<=s.rlo/\s.rlo<=s.rhi/\s.rhi<=100
 slen:s.steps.length<=8
 steps:∀x∈s.steps,(0<=x.1/\x.1<=10000000)/\(0<=x.2/\x.2<=10000)
structure NrAt (h:Heap)(b2 b5 ba bv:Nat)(s:Si)(d:SAd)(ak:Option Addr)(ck:Nat)(kept:List Mv)(A:List Int):Prop where
 v:VtAt h bv s d ak ck kept
 p:h.get b2=some (.cells [.pointer (some ⟨bv,0,none⟩)] 67 false)
 a:h.get b5=some (.cells [.slice (some ⟨ba,0,none⟩) s.rooms.length s.rooms.length] 46 false)
 c:h.get ba=some (.cells (A.map i64) 3 false)
 l:A.length=s.rooms.length
theorem NrAt.ext {h h':Heap}{b2 b5 ba bv:Nat}{s:Si}{d:SAd}{ak:Option Addr}{ck:Nat}{kept:List Mv}{A:List Int}(n:NrAt h b2 b5 ba bv s d ak ck kept A)(he:Ext h h'):NrAt h' b2 b5 ba bv s d ak ck kept A:=⟨n.v.ext he,he.get n.p,he.get n.a,he.get n.c,n.l⟩
theorem ZQv {h:Heap}{b2 b5 ba bv:Nat}{s:Si}{d:SAd}{ak:Option Addr}{ck:Nat}{kept:List Mv}{A:List Int}{i:Nat}(hN:NrAt h b2 b5 ba bv s d ak ck kept A)(hok:s.Ok)(hi:i<s.rooms.length) :
  Sv Tryz.prog 128 ([]++([i64 (i:Nat)]++[.pointer (some ⟨b2,0,none⟩),.pointer (some ⟨b5,0,none⟩)])) h (RetP fun v h'=>v=i64 (ZBo s.steps (A.getD i 0))/\Ext h h'):=by
 refine ZA5 fun hw=>?_;obtain⟨ar,cr,ac,cc,ast,cst⟩:=d;have hg:=hN.v.g;have hp:=hN.p;have hsl:=hok.slen;have hcell:=ZBU hN.c (r:=i) (by rw[hN.l];exact hi);refine ZAG Tryz.func128 rfl (by rw[Tryz.ntmps128];rfl) ?_;show Wc Tryz.prog ⟨128,28,none⟩ _ _ _ _ _;refine zy ?_;refine ZAN (fun (k:Nat) m ds h'=>ds=[]/\Ext h h'/\k<=s.steps.length/\AllK m [(0,i64 (i:Nat)),(2,.pointer (some ⟨b5,0,none⟩)),(4,i64 (ZBo (s.steps.take k) (A.getD i 0))),(11,.slice ast s.steps.length cst),(12,i64 s.steps.length),(13,i64 (k:Nat))]) (fun k=>s.steps.length-k) 0 ?_ ?_
 ·exact⟨rfl,Ext.refl _,Nat.zero_le _,rfl,rfl,rfl,rfl,rfl,rfl,trivial⟩
 rintro k m ds h2 ⟨rfl,hE2,hkl,hall⟩;refine Wc.le (ZBR fun hW2=>?_) (Le.kn hall);clear hall;refine zy ?_;refine zC (ZAU rfl rfl) (fun hlt=>?_) (fun hlt=>?_);rotate_left
 ·have hkn:k=s.steps.length:=by omega
  rw[hkn,List.take_length];refine zy ?_;exact ZAC (ZAD rfl ⟨rfl,hE2⟩)
 have hk':k<s.steps.length:=by omega
 obtain⟨b,o,oa,eac,row,hrow,hxr⟩:=hN.v.s.s k hk';have htk:s.steps.take (k+1)=s.steps.take k++[s.steps[k]]:=by rw[List.take_add_one,List.getElem?_eq_getElem hk'];rfl
 have hst:=ZLD (s.steps.take k) s.steps[k] (A.getD i 0);rw[<-htk] at hst;generalize s.steps[k]=x at *;generalize ZBo (s.steps.take k) (A.getD i 0)=q at *;generalize A.getD i 0=z at *;have hx':row=rowP x:=hxr;subst hx';replace eac:ast=some ⟨b,o,oa⟩:=eac;subst eac;have hrow2:=hE2.row hrow;refine zy ?_;refine zD (A_ix Und.h Tsz.h rfl rfl) ?_;refine ZAJ rfl rfl Zr.h Tsz.h rfl (fun _=>rfl) rfl rfl rfl fun h3 hE3 hW3 hg3 hn3=>?_;replace hE3:=hE2.trans hE3;have k5:=hE3.get hN.a;have c5:=hE3.cell hcell;refine zy ?_
 by_cases hlt2:x.1<z
 ·refine ZAL hmix xZ50 xZ51 none [] (by kernel_rfl) (by kernel_rfl) ?_
  refine z_f ?_;refine z_l ?_;refine z_l ?_;refine z_m ?_;refine z_i ?_;refine z_l ?_;refine ZAB rfl rfl rfl rfl rfl (fun _=>A_tt hlt2 (ZAU rfl rfl)) ?_;refine ZAO (ZAA rfl) nb' ?_;rw[if_pos hlt2] at hst;refine zy ?_;exact⟨k+1,(by show s.steps.length-(k+1)<s.steps.length-k;omega),rfl,hE3,hk',rfl,rfl,by rw[hst];rfl,rfl,rfl,rfl,trivial⟩
 ·refine ZAL hmix xZ50 xZ51 none [] (by kernel_rfl) (by kernel_rfl) ?_
  refine z_f ?_;refine z_l ?_;refine z_l ?_;refine z_m ?_;refine z_i ?_;refine z_l ?_;refine ZAB rfl rfl rfl rfl rfl (fun _=>A_ff hlt2 (ZAU rfl rfl)) ?_;refine ZAO (ZAA rfl) nb' ?_;rw[if_neg hlt2] at hst;refine zy ?_;exact⟨k+1,(by show s.steps.length-(k+1)<s.steps.length-k;omega),rfl,hE3,hk',rfl,rfl,by rw[hst];rfl,rfl,rfl,rfl,trivial⟩
theorem ZQ6 {h:Heap}{b2 b5 ba bv:Nat}{s:Si}{d:SAd}{ak:Option Addr}{ck:Nat}{kept:List Mv}{A:List Int}{i j:Nat}(hN:NrAt h b2 b5 ba bv s d ak ck kept A)(hi:i<s.rooms.length)(hj:j<s.rooms.length) :
  Sv Tryz.prog 129 ([]++([i64 (i:Nat),i64 (j:Nat)]++[.pointer (some ⟨b5,0,none⟩),.pointer (some ⟨b2,0,none⟩)])) h (RetP fun v h'=>v=.bool (ZE5 A s.rooms i j)/\h'=h):=by
 obtain⟨ar,cr,ac,cc,ast,cst⟩:=d;have hg:=hN.v.g;have hp:=hN.p;have ha:=hN.a;have hci:=ZBU hN.c (r:=i) (by rw[hN.l];exact hi);have hcj:=ZBU hN.c (r:=j) (by rw[hN.l];exact hj);obtain⟨b,o,oa,ear,row,hrow,hxr⟩:=hN.v.s.r j hj;have eg:s.rooms.getD j default=s.rooms[j]:=by rw[List.getD_eq_getElem?_getD,List.getElem?_eq_getElem hj];rfl
 unfold ZE5;rw[eg];generalize s.rooms[j]=x at *;have hx':row=ZB3 x:=hxr;subst hx';replace ear:ar=some ⟨b,o,oa⟩:=ear;subst ear;have c5:ZAS h b (o+j*10+5)=some (.bool x.people):=ZAK (k:=5) hrow rfl;generalize A.getD i 0=p at *;generalize A.getD j 0=q at *;refine ZAG Tryz.func129 rfl (by rw[Tryz.ntmps129];rfl) ?_;show Wc Tryz.prog ⟨129,30,none⟩ _ _ _ _ _;refine zy ?_;refine zD (A_ix (k:=i) Und.h Tsz.h rfl rfl hi) ?_;refine zC (ZA4 rfl rfl) (fun h1=>?_) (fun h1=>?_);rotate_left
 ·rw[decide_eq_false h1]
  refine zy ?_;exact ZAC (ZAD rfl ⟨rfl,rfl⟩)
 rw[decide_eq_true h1];refine zy ?_;refine zD (A_ix (k:=j) Und.h Tsz.h rfl rfl hj) ?_;refine zC (ZA4 rfl rfl) (fun h2=>?_) (fun h2=>?_)
 ·rw[decide_eq_true h2]
  refine zy ?_;exact ZAC (ZAD rfl ⟨rfl,rfl⟩)
 rw[decide_eq_false h2];refine zy ?_;refine zD (A_ix (k:=j) Und.h Tsz.h rfl rfl hj) ?_;exact ZAC (ZAD rfl ⟨rfl,rfl⟩)
theorem ZOw {x:Int}{n:Int}(h0:-n<=x)(h1:x<=n):0<=x*x/\x*x<=n*n:=by
 refine⟨?_,?_⟩
 ·rcases Int.le_total 0 x with q|q
  ·exact Int.mul_nonneg q q
  ·exact Int.mul_nonneg_of_nonpos_of_nonpos q q
 ·rcases Int.le_total 0 x with q|q
  ·exact Int.mul_le_mul h1 h1 q (by omega)
  ·rw[<-Int.neg_mul_neg]
   exact Int.mul_le_mul (by omega) (by omega) (by omega) (by omega)
abbrev ZDb (p:Nat×Nat):List Value:=[i64 (p.1:Nat),i64 (p.2:Nat)]
abbrev nrT:TypeId:=109
theorem ZQs (x0 x1:Value):Instr.fill (fun i=>some (i*2,2)) (rep 1 (Value.cells (.agg ⟨[i64 0,i64 0]⟩)).toList).toArray [(0,.agg ⟨[x0,x1]⟩)]=some ⟨[x0,x1]⟩:=by kernel_rfl
theorem ZQV {h0 h:Heap}{v:Value}{el:TypeId}{sz n:Nat}{cs:List Value}{I:List It}(hO:Own h0 h (slI h0 v el sz cs n::I)):∃a c,v=.slice a n c:=by
 rcases (show ZAF _ _ _ _ _ _ _ from hO.p1) with ⟨e,_,hn⟩|⟨b',sp,op,e,_⟩
 ·exact⟨_,_,by rw[e,hn]⟩
 ·exact⟨_,_,e⟩
theorem ZDn {α:Type}(p:α->Bool)(l:List α)(x:α):(l++[x]).filter p=if p x=true then l.filter p++[x] else l.filter p:=by
 rw[List.filter_append]
 by_cases h:p x=true
 ·rw[if_pos h,List.filter_cons_of_pos h];rfl
 ·rw[if_neg h,List.filter_cons_of_neg h];simp
set_option maxHeartbeats 4000000 in
theorem ZPW {h:Heap}{bv:Nat}{s:Si}{d:SAd}{ak:Option Addr}{ck:Nat}{kept:List Mv}{w:List Int}{aw:Option Addr}{cw:Nat}(hV:VtAt h bv s d ak ck kept)(hok:s.Ok)(hW:ZAi i64 h aw w)(hw:InR s.rooms.length w)(hl:w.length=s.cans.length) :
  Sv Tryz.prog 78 [.pointer (some ⟨bv,0,none⟩),.slice aw w.length cw] h (RetP fun v h'=>Ext h h'/\∃a c,v=.slice a (ZMf (amtS s.rooms.length s.cans w) s.rooms s.steps).length c):=by
 refine ZA5 fun hwf=>?_;have hrl:=hok.rlen;refine ZAG Tryz.func78 rfl (by rw[Tryz.ntmps78];rfl) ?_;show Wc Tryz.prog ⟨78,105,none⟩ _ _ _ _ _;refine zy ?_;refine ZAn rfl rfl rfl fun h1 hE1 hW1 hg1 hn1=>?_;generalize h.nx=b2 at hg1 ⊢;refine zy ?_
 refine ZAa rfl rfl rfl rfl rfl Bod.h rfl rfl (ZIu (hV.ext hE1) (by omega) hok.cans (fun i hi=>by
  obtain⟨b,o,oa,e,hc⟩:=hW i hi;exact⟨b,o,oa,e,hE1.cell hc⟩) hw hl) ?_
 rintro _ h2 ⟨hE2,ba,rfl,hba,hga⟩;have hg2:=hE2.get hg1;replace hE2:=hE1.trans hE2;refine ZBC fun hW2=>?_;refine zy ?_;refine ZAJ rfl rfl Zr.h Tsz.h rfl (fun _=>rfl) rfl rfl rfl fun h3 hE3 hW3 hg3 hn3=>?_;generalize h2.nx=b5 at hg3 ⊢;have hAl:=ZDm s.rooms.length s.cans w s.cans.length;have hN:NrAt h3 b2 b5 ba bv s d ak ck kept (amtS s.rooms.length s.cans w):=⟨hV.ext (hE2.trans hE3),hE3.get hg2,hg3,hE3.get hga,hAl⟩;replace hE3:=hE2.trans hE3;clear hg2 hga hE2 hE1 hg1 hW1 hW2 hAl hg3;generalize hA:amtS s.rooms.length s.cans w=A at *;obtain⟨ar,cr,ac,cc,ast,cst⟩:=d;have hP:=hN.p;have hVg:=hN.v.g;refine zy ?_
 refine ZAN (fun (st:Nat×Value) m ds h'=>ds=[]/\Ext h3 h'/\st.1<=s.rooms.length/\Own h3 h' [slI h3 st.2 nrT 2 (((prsN s.rooms.length st.1).filter (ZBD A s.rooms s.steps)).flatMap ZDb) ((prsN s.rooms.length st.1).filter (ZBD A s.rooms s.steps)).length]/\AllK m [(2,.pointer (some ⟨b2,0,none⟩)),(4,st.2),(6,.func (.func 128) ⟨[]⟩ ⟨[.pointer (some ⟨b2,0,none⟩),.pointer (some ⟨b5,0,none⟩)]⟩),(7,.func (.func 129) ⟨[]⟩ ⟨[.pointer (some ⟨b5,0,none⟩),.pointer (some ⟨b2,0,none⟩)]⟩),(23,.slice ar s.rooms.length cr),(24,i64 s.rooms.length),(25,i64 (st.1:Nat))]) (fun st=>s.rooms.length-st.1) (0,.slice none 0 0) ?_ ?_
 ·exact⟨rfl,Ext.refl _,Nat.zero_le _,(Own.nil h3 h3).nilSl nrT 2,rfl,rfl,rfl,rfl,rfl,rfl,rfl,trivial⟩
 rintro⟨i,v⟩ m ds h4 ⟨rfl,hE4,hi,hO4,hall⟩;refine Wc.le (ZBR fun hW4=>?_) (Le.kn hall);clear hall;simp only at hi hO4 ⊢;refine zy ?_;refine zC (ZAU rfl rfl) (fun hlt=>?_) (fun hlt=>?_);rotate_left
 ·have hin:i=s.rooms.length:=by omega
  subst hin;obtain⟨a1,c1,rfl⟩:=ZQV hO4;refine zy ?_;exact ZAC (ZAD rfl ⟨hE3.trans hE4,a1,c1,rfl⟩)
 have hi':i<s.rooms.length:=by omega
 obtain⟨b,o,oa,ear,row,hrow,hxr⟩:=hN.v.s.r i hi';have egp:s.rooms.getD i default=s.rooms[i]:=by rw[List.getD_eq_getElem?_getD,List.getElem?_eq_getElem hi'];rfl
 have hpm:=hok.rm _ (List.getElem_mem hi');generalize hpp:s.rooms[i]=p at *;have hx':row=ZB3 p:=hxr;subst hx';replace ear:ar=some ⟨b,o,oa⟩:=ear;subst ear;have hrow4:=hE4.row hrow;refine zy ?_;refine zD (A_ix Und.h Tsz.h rfl rfl) ?_;refine ZA2 rfl rfl Zr.h fun hx hEx hWx hgx hnx=>?_;refine zy ?_;refine ZAf rfl Tsz.h rfl rfl hgx rfl rfl rfl fun h5 hU5=>?_;have hE45:Ext h4 h5:=hU5.ext hEx hW4 (Nat.le_refl _);have g5:=hU5.at';have hO5:=(hO4.newCe hW4 hE4.2.1 hE45 g5 (Nat.le_refl _)).up2;have hE5:=hE4.trans hE45;clear hU5 hEx hWx hgx hnx hO4 hE45 hrow4 hW4;clear g5;generalize h4.nx=b9 at hO5 ⊢;refine zy ?_
 refine ZAN (fun (st:Nat×Value) m ds h'=>ds=[]/\Ext h3 h'/\i+1+st.1<=s.rooms.length/\Own h3 h' [slI h3 st.2 nrT 2 (((prsN s.rooms.length i++prsI i st.1).filter (ZBD A s.rooms s.steps)).flatMap ZDb) ((prsN s.rooms.length i++prsI i st.1).filter (ZBD A s.rooms s.steps)).length,ceI b9 (ZB3 p) 43 false]/\AllK m [(2,.pointer (some ⟨b2,0,none⟩)),(4,st.2),(6,.func (.func 128) ⟨[]⟩ ⟨[.pointer (some ⟨b2,0,none⟩),.pointer (some ⟨b5,0,none⟩)]⟩),(7,.func (.func 129) ⟨[]⟩ ⟨[.pointer (some ⟨b5,0,none⟩),.pointer (some ⟨b2,0,none⟩)]⟩),(8,i64 (i:Nat)),(9,.pointer (some ⟨b9,0,none⟩)),(10,i64 ((i:Nat)+1+(st.1:Nat))),(23,.slice (some ⟨b,o,oa⟩) s.rooms.length cr),(24,i64 s.rooms.length),(25,i64 (i:Nat))]) (fun st=>s.rooms.length-st.1) (0,v) ?_ ?_
 ·refine⟨rfl,hE5,by omega,?_,rfl,rfl,rfl,rfl,rfl,rfl,by simp;rfl,rfl,rfl,rfl,trivial⟩
  have e0:prsI i 0=[]:=rfl;simp only[e0,List.append_nil];exact hO5
 clear hO5 hE5 hE4;rintro⟨j,v2⟩ m ds h6 ⟨rfl,hE6,hj,hO6,hall⟩;refine Wc.le (ZBR fun hW6=>?_) (Le.kn hall);clear hall;simp only at hj hO6 ⊢;have hE36:=hE6;have hP6:=hE36.get hP;have hV6:=hE36.get hVg;have g6:h6.get b9=some (.cells (ZB3 p) 43 false):=hO6.p2;refine zy ?_;refine zC (ZAU rfl rfl) (fun hjl=>?_) (fun hjl=>?_);rotate_left
 ·have hjn:j=s.rooms.length-(i+1):=by omega
  subst hjn;refine zy ?_;exact⟨(i+1,v2),(by show s.rooms.length-(i+1)<s.rooms.length-i;omega),rfl,hE36,hi',hO6.sub (List.sublist_append_left [_] [_]),rfl,rfl,rfl,rfl,rfl,rfl,rfl,trivial⟩
 have hj':i+1+j<s.rooms.length:=by omega
 obtain⟨b',o',oa',ear',row',hrow',hxr'⟩:=hN.v.s.r (i+1+j) hj';have egq:s.rooms.getD (i+1+j) default=s.rooms[i+1+j]:=by rw[List.getD_eq_getElem?_getD,List.getElem?_eq_getElem hj'];rfl
 have hqm:=hok.rm _ (List.getElem_mem hj');generalize hqq:s.rooms[i+1+j]=q at *;have hx':row'=ZB3 q:=hxr';subst hx';cases (show some _=some _ from ear');have hrow6:=hE36.row hrow';obtain⟨jj,hjj⟩:∃jj,jj=i+1+j:=⟨_,rfl⟩;have hjz:((i:Nat):Int)+1+((j:Nat):Int)=((jj:Nat):Int):=by omega
 have hps:=ZKd i j;rw[<-hjj] at hrow6 egq hj' hps;rw[hjz];refine zy ?_;refine zD (ZAE (k:=jj) Und.h Tsz.h rfl rfl rfl hj') ?_;refine ZAJ rfl rfl Zr.h Tsz.h rfl (fun _=>rfl) rfl rfl rfl fun h7 hE7 hW7 hg7 hn7=>?_;have hO7:=hO6.ext hE7;have g7:=hE7.get g6;have hE37:=hE36.trans hE7;have hN7:=hN.ext hE37;clear hrow6 hO6 g6 hP6 hV6 hE7;have hdx:=ZOw (x:=p.x-q.x) (n:=10000) (by omega) (by omega);have hdy:=ZOw (x:=p.y-q.y) (n:=10000) (by omega) (by omega);refine zy ?_;refine zD (ZF5 rfl rfl (by omega) (by omega)) ?_;refine zE (ZF5 rfl rfl (by omega) (by omega)) ?_;have hfar:farS p q=(p.x-q.x)*(p.x-q.x)+(p.y-q.y)*(p.y-q.y):=rfl
 generalize (p.x-q.x)*(p.x-q.x)=dx at *;generalize (p.y-q.y)*(p.y-q.y)=dy at *;refine zy ?_;refine zW (ZQv hN7 hok hi') fun h8 hE8=>?_;refine zy ?_;refine zW (ZQv (hN7.ext hE8) hok hj') fun h9 hE9=>?_;have hE79:=hE8.trans hE9;have hO9:=hO7.ext hE79;have hN9:=hN7.ext hE79;have hE39:=hE37.trans hE79;have hkb1:=ZJ4 (fun x hx=>(hok.steps x hx).2) (A.getD i 0);have hkb2:=ZJ4 (fun x hx=>(hok.steps x hx).2) (A.getD jj 0);have hnpe:ZBD A s.rooms s.steps (i,jj)=((ZE5 A s.rooms i jj || ZE5 A s.rooms jj i) && decide (dx+dy<max (ZBo s.steps (A.getD i 0)) (ZBo s.steps (A.getD jj 0))*max (ZBo s.steps (A.getD i 0)) (ZBo s.steps (A.getD jj 0)))):=by
  unfold ZBD;simp only;rw[egp,egq,hfar]
 have hflen:((prsN s.rooms.length i++prsI i j).filter (ZBD A s.rooms s.steps)).length<=200:=by
  refine Nat.le_trans (List.length_filter_le _ _) ?_;have h1:=ZJU s.rooms.length i (by omega);have h2:i*s.rooms.length<=12*12:=Nat.mul_le_mul (by omega) (by omega);unfold prsI;rw[List.length_append,List.length_map,List.length_range'];omega
 have hj1:((jj:Nat):Int)+1=(i:Nat)+1+((j+1:Nat):Int):=by omega
 generalize ZBo s.steps (A.getD i 0)=K1 at *;generalize ZBo s.steps (A.getD jj 0)=K2 at *;have hM:=ZOw (x:=max K1 K2) (n:=10000) (by omega) (by omega);clear hE8 hE9 hN7 hO7 g7 hE37;refine zy ?_;refine zD (ZUu rfl rfl) ?_;refine zU (ZQ6 hN9 hi' hj') ?_
 have hfin:∀{vx h' I},ZBD A s.rooms s.steps (i,jj)=false->Own h3 h' (slI h3 vx nrT 2 (((prsN s.rooms.length i++prsI i j).filter (ZBD A s.rooms s.steps)).flatMap ZDb) ((prsN s.rooms.length i++prsI i j).filter (ZBD A s.rooms s.steps)).length::I)->Own h3 h' (slI h3 vx nrT 2 (((prsN s.rooms.length i++prsI i (j+1)).filter (ZBD A s.rooms s.steps)).flatMap ZDb) ((prsN s.rooms.length i++prsI i (j+1)).filter (ZBD A s.rooms s.steps)).length::I):=fun hnp hO=>by
  rw[hps,<-List.append_assoc,ZDn,if_neg (by rw[hnp];decide)];exact hO
 have hfin2:∀{vx h' I},ZBD A s.rooms s.steps (i,jj)=true->Own h3 h' (slI h3 vx nrT 2 (((prsN s.rooms.length i++prsI i j).filter (ZBD A s.rooms s.steps)).flatMap ZDb++ZDb (i,jj)) (((prsN s.rooms.length i++prsI i j).filter (ZBD A s.rooms s.steps)).length+1)::I)->Own h3 h' (slI h3 vx nrT 2 (((prsN s.rooms.length i++prsI i (j+1)).filter (ZBD A s.rooms s.steps)).flatMap ZDb) ((prsN s.rooms.length i++prsI i (j+1)).filter (ZBD A s.rooms s.steps)).length::I):=fun hnp hO=>by
  rw[hps,<-List.append_assoc,ZDn,if_pos hnp,List.flatMap_append,List.flatMap_singleton,List.length_append];exact hO
 cases hr1:ZE5 A s.rooms i jj with
 | true =>
  refine zy ?_;refine zD (ZF5 rfl rfl (by omega) (by omega)) ?_
  by_cases hf:dx+dy<max K1 K2*max K1 K2
  ·refine zE (A_tt hf (ZAU rfl rfl)) ?_
   have hnp:ZBD A s.rooms s.steps (i,jj)=true:=by rw[hnpe,hr1,decide_eq_true hf];rfl
   refine zy ?_;refine ZBg (cs:=ZDb (i,jj)) rfl rfl Und.h Tsz.h Zr.h rfl rfl rfl rfl (ZQs _ _) fun h10 hE10 hW10 hg10 hn10=>?_;refine zy ?_;refine ZAo (k:=1) (n:=((prsN s.rooms.length i++prsI i j).filter (ZBD A s.rooms s.steps)).length) (l:=ZDb (i,jj)) hW3 (hE39.trans hE10) rfl rfl rfl rfl rfl Und.h inferInstance rfl rfl (hO9.ext hE10) (ZAs Und.h (by intro k;simp) (ZAP hg10 rfl)) rfl rfl (by omega) (by omega) fun v3 h11 hW11 hO11 hE11=>?_;refine zy ?_;exact⟨(j+1,v3),(by show s.rooms.length-(j+1)<s.rooms.length-j;omega),rfl,hE11,(by show i+1+(j+1)<=s.rooms.length;omega),hfin2 hnp hO11,rfl,rfl,rfl,rfl,rfl,rfl,congrArg (fun z=>some (i64 z)) hj1,rfl,rfl,rfl,trivial⟩
  ·refine zE (A_ff hf (ZAU rfl rfl)) ?_
   have hnp:ZBD A s.rooms s.steps (i,jj)=false:=by rw[hnpe,hr1,decide_eq_false hf];rfl
   refine zy ?_;exact⟨(j+1,v2),(by show s.rooms.length-(j+1)<s.rooms.length-j;omega),rfl,hE39,(by show i+1+(j+1)<=s.rooms.length;omega),hfin hnp hO9,rfl,rfl,rfl,rfl,rfl,rfl,congrArg (fun z=>some (i64 z)) hj1,rfl,rfl,rfl,trivial⟩
 | false =>
  refine zy ?_;refine zU (ZQ6 hN9 hj' hi') ?_
  cases hr2:ZE5 A s.rooms jj i with
  | true =>
   refine zy ?_;refine zD (ZF5 rfl rfl (by omega) (by omega)) ?_
   by_cases hf:dx+dy<max K1 K2*max K1 K2
   ·refine zE (A_tt hf (ZAU rfl rfl)) ?_
    have hnp:ZBD A s.rooms s.steps (i,jj)=true:=by rw[hnpe,hr1,hr2,decide_eq_true hf];rfl
    refine zy ?_;refine ZBg (cs:=ZDb (i,jj)) rfl rfl Und.h Tsz.h Zr.h rfl rfl rfl rfl (ZQs _ _) fun h10 hE10 hW10 hg10 hn10=>?_;refine zy ?_;refine ZAo (k:=1) (n:=((prsN s.rooms.length i++prsI i j).filter (ZBD A s.rooms s.steps)).length) (l:=ZDb (i,jj)) hW3 (hE39.trans hE10) rfl rfl rfl rfl rfl Und.h inferInstance rfl rfl (hO9.ext hE10) (ZAs Und.h (by intro k;simp) (ZAP hg10 rfl)) rfl rfl (by omega) (by omega) fun v3 h11 hW11 hO11 hE11=>?_;refine zy ?_;exact⟨(j+1,v3),(by show s.rooms.length-(j+1)<s.rooms.length-j;omega),rfl,hE11,(by show i+1+(j+1)<=s.rooms.length;omega),hfin2 hnp hO11,rfl,rfl,rfl,rfl,rfl,rfl,congrArg (fun z=>some (i64 z)) hj1,rfl,rfl,rfl,trivial⟩
   ·refine zE (A_ff hf (ZAU rfl rfl)) ?_
    have hnp:ZBD A s.rooms s.steps (i,jj)=false:=by rw[hnpe,hr1,hr2,decide_eq_false hf];rfl
    refine zy ?_;exact⟨(j+1,v2),(by show s.rooms.length-(j+1)<s.rooms.length-j;omega),rfl,hE39,(by show i+1+(j+1)<=s.rooms.length;omega),hfin hnp hO9,rfl,rfl,rfl,rfl,rfl,rfl,congrArg (fun z=>some (i64 z)) hj1,rfl,rfl,rfl,trivial⟩
  | false =>
   have hnp:ZBD A s.rooms s.steps (i,jj)=false:=by rw[hnpe,hr1,hr2];rfl
   refine zy ?_;exact⟨(j+1,v2),(by show s.rooms.length-(j+1)<s.rooms.length-j;omega),rfl,hE39,(by show i+1+(j+1)<=s.rooms.length;omega),hfin hnp hO9,rfl,rfl,rfl,rfl,rfl,rfl,congrArg (fun z=>some (i64 z)) hj1,rfl,rfl,rfl,trivial⟩
def ZDG {α:Type}(nm:α->List UInt8)(wrong:α->Int)(l:List α)(k:Nat):Prop:=∃x,l[k]?=some x/\ZCv (nm x)=true/\nm x ∉ (l.take k).map nm/\wrong x=0
def NmOk {α:Type}(nm:α->List UInt8)(wrong:α->Int)(l:List α):Prop:=∀k,k<l.length->ZDG nm wrong l k
structure NmI (h0 h:Heap)(bm:Nat)(ZAd:List (List UInt8)):Prop where
 ext:Ext h0 h
 mp:∃l,ZD9 strK h bm l/\∀s,lkp s l=if s∈ZAd then some (.bool true) else none
 lt:h0.nx<=bm
theorem NmI.grow {h0 h h':Heap}{bm:Nat}{ZAd:List (List UInt8)}(c:NmI h0 h bm ZAd)(he:Ext h h'):NmI h0 h' bm ZAd:=by
 obtain⟨l,m1,m2⟩:=c.mp;exact⟨c.ext.trans he,⟨l,m1.ext _ he,m2⟩,c.lt⟩
theorem NmI.upd {h0 h h':Heap}{bm x:Nat}{ZAd:List (List UInt8)}{o:AO}(c:NmI h0 h bm ZAd)(u:Upd h x o h')(hw:WF h0)(hx:h0.nx<=x)(h2:bm≠x):NmI h0 h' bm ZAd:=by
 obtain⟨l,m1,m2⟩:=c.mp;exact⟨u.ext c.ext hw hx,⟨l,m1.get _ (u.other _ h2),m2⟩,c.lt⟩
theorem ZTb {ZAd:List (List UInt8)}{l:List (List UInt8×Value)}{s:List UInt8}(h:∀x,lkp x l=if x∈ZAd then some (.bool true) else none)(x:List UInt8):lkp x (setK s (.bool true) l)=if x∈ZAd++[s] then some (.bool true) else none:=by
 rw[ZBw,h x]
 by_cases hx:x=s
 ·simp[hx]
 ·simp[hx]
def ZVW (p:Prop)(v:Value):Prop:=∃i e:Int,v=.tuple ⟨[i64 i,i64 e]⟩/\(e=0 ↔ p)
theorem ZQr {a:Option Addr}{cap:Nat}{l:List Rm}{wrong:Rm->Int}{h:Heap}{g1 g2:FuncId}{f2:List Value}(hI:TabA ZB3 10 h a l)(hlen:Len l)(hN:∀x∈l,Len (Rm.name x))(hb1:ZAp Tryz.prog g1=true)(hb2:ZAp Tryz.prog g2=true)
  (hp1:(∀h1,Ext h h1->∀x,x∈l->Sv Tryz.prog g1 ([]++([.agg ⟨ZB3 x⟩]++[])) h1 (RetP fun v h'=>v=str (Rm.name x)/\Ext h1 h')))
  (hp2:(∀h1,Ext h h1->∀x,x∈l->Sv Tryz.prog g2 ([]++([.agg ⟨ZB3 x⟩]++f2)) h1 (RetP fun v h'=>v=i64 (wrong x)/\Ext h1 h'))) :
  Sv Tryz.prog 71 [.slice a l.length cap,.func (.func g1) ⟨[]⟩ ⟨[]⟩,.func (.func g2) ⟨[]⟩ ⟨f2⟩] h (RetP fun v h'=>ZVW (NmOk Rm.name wrong l) v/\Ext h h'):=by
 refine ZA5 fun hw=>?_;refine ZAG Tryz.func71 rfl (by rw[Tryz.ntmps71];rfl) ?_;show Wc Tryz.prog ⟨71,44,none⟩ _ _ _ _ _;refine zy ?_;refine ZCe rfl rfl fun h6 hE6 hW6 hg6 hn6=>?_;have hI0:NmI h h6 h.nx []:=⟨hE6,⟨[],ZD9.new _ hg6,fun _=>rfl⟩,Nat.le_refl _⟩;generalize hbm:h.nx=bm at *;refine zy ?_
 refine ZAN (fun (k:Nat) m ds h'=>ds=[]/\k<=l.length/\NmI h h' bm ((l.take k).map Rm.name)/\(∀j,j<k->ZDG Rm.name wrong l j) ∧
   AllK m [(1,.func (.func g1) ⟨[]⟩ ⟨[]⟩),(2,.func (.func g2) ⟨[]⟩ ⟨f2⟩),(8,.map (some bm)),(14,.slice a l.length cap),(15,i64 l.length),(16,i64 k)]) (fun k=>l.length-k) 0 ?_ ?_
 ·exact⟨rfl,Nat.zero_le _,hI0,(fun j hj=>absurd hj (Nat.not_lt_zero _)),rfl,rfl,rfl,rfl,rfl,rfl,trivial⟩
 clear hI0 hg6 hE6 hW6 hn6;clear h6;rintro k m ds h1 ⟨rfl,hk,hC,hgo,hall⟩;refine ZBR fun hw1=>?_;refine Wc.le ?_ (Le.kn hall);refine zy ?_;refine zC (ZAU rfl rfl) (fun h6=>?_) (fun h6=>?_);rotate_left
 ·refine zy ?_
  exact ZAC (ZAD rfl ⟨⟨_,0,rfl,fun _=>fun j hj=>hgo j (by omega),fun _=>rfl⟩,hC.ext⟩)
 have hk':k<l.length:=by simpa using h6
 have htk:l.take (k+1)=l.take k++[l[k]]:=by rw[List.take_add_one,List.getElem?_eq_getElem hk'];rfl
 have hxm:=List.getElem_mem hk';have hno:∀{q:Prop},(ZDG Rm.name wrong l k->q)->NmOk Rm.name wrong l->q:=fun f z=>f (z k hk');have hgk:∀{q:Prop},(ZCv (Rm.name l[k])=true->Rm.name l[k] ∉ (l.take k).map Rm.name->wrong l[k]=0->q)->ZDG Rm.name wrong l k->q:=by
  rintro q f ⟨x,e,h1,h2,h3⟩;rw[List.getElem?_eq_getElem hk'] at e;cases e;exact f h1 h2 h3
 have hyes:ZCv (Rm.name l[k])=true->Rm.name l[k] ∉ (l.take k).map Rm.name->wrong l[k]=0->ZDG Rm.name wrong l k:=fun h1 h2 h3=>⟨l[k],List.getElem?_eq_getElem hk',h1,h2,h3⟩;obtain⟨b,o,oa,rfl,row,hrow,hma⟩:=hI k hk';have hxN:=hN _ hxm;generalize hmk:l[k]=x at *;have hx':row=ZB3 x:=hma;subst hx';have hrow1:=hC.ext.row hrow;refine zy ?_;refine zD (A_ix Und.h Tsz.h rfl rfl) ?_;refine ZA2 rfl rfl Zr.h fun h2 hE2 hW2 hg2 hn2=>?_;refine zy ?_;refine ZAf rfl Tsz.h rfl rfl hg2 rfl rfl rfl fun h3 hU3=>?_;have hbmn:bm≠h1.nx:=by
  obtain⟨l,⟨es,c,e1,_⟩,_⟩:=hC.mp;have:=hw1 _ _ e1;omega
 have hC3:=(hC.grow hE2).upd hU3 hw hC.ext.2.1 hbmn;have hg7:=hU3.at';generalize h1.nx=b7 at *;clear hU3;refine zy ?_;refine ZBv rfl rfl rfl rfl rfl hb1 rfl rfl (hp1 h3 hC3.ext _ hxm) fun h4 hE4=>?_;replace hC3:=hC3.grow hE4;replace hg7:=hE4.get hg7;refine zy ?_;refine ZJM rfl rfl rfl rfl rfl Bod.h rfl rfl (ZBc _ _ hxN) (fun h8 h9 hE9=>?_) (fun h8 h9 hE9=>?_);rotate_left
 ·rw[ZEK] at h8
  refine zy ?_;exact ZAC (ZAD rfl ⟨⟨_,6,rfl,fun q=>absurd q (by decide),hno (hgk fun q _ _=>absurd (h8 ▸ q) (by decide))⟩,(hC3.grow hE9).ext⟩)
 rw[ZEK] at h8;replace hC3:=hC3.grow hE9;replace hg7:=hE9.get hg7;obtain⟨l',mp1,mp2⟩:=hC3.mp;refine zy ?_;refine zE (ZJp strK Und.h Zr.h rfl mp1 (k:=Rm.name x) rfl) ?_;rw[mp2]
 by_cases hin:Rm.name x∈(l.take k).map Rm.name
 ·rw[if_pos hin]
  refine zy ?_;exact ZAC (ZAD rfl ⟨⟨_,5,rfl,fun q=>absurd q (by decide),hno (hgk fun _ q _=>absurd hin q)⟩,hC3.ext⟩)
 rw[if_neg hin];refine zy ?_;refine ZBv rfl rfl rfl rfl rfl hb2 rfl rfl (hp2 _ hC3.ext _ hxm) fun h12 hE12=>?_;refine zy ?_;refine zC (ZAh rfl rfl) (fun h10=>?_) (fun h10=>?_)
 ·refine zy ?_
  exact ZAC (ZAD rfl ⟨⟨_,_,rfl,fun q=>absurd q h10,hno (hgk fun _ _ q=>absurd q h10)⟩,(hC3.grow hE12).ext⟩)
 replace hC3:=hC3.grow hE12;obtain⟨l',mp1,mp2⟩:=hC3.mp;refine zy ?_;refine ZGt strK rfl Und.h rfl mp1 (k:=Rm.name x) rfl rfl fun h13 o13 hU13 hM13=>?_;refine zy ?_;refine⟨k+1,?_,rfl,hk',?_,?_,rfl,rfl,rfl,rfl,rfl,rfl,trivial⟩
 ·show l.length-(k+1)<l.length-k;omega
 ·rw[htk,List.map_append]
  refine⟨hU13.ext hC3.ext hw hC3.lt,⟨_,hM13,?_⟩,hC3.lt⟩;exact fun x=>ZTb mp2 x
 ·intro j hj
  rcases Nat.lt_succ_iff_lt_or_eq.1 hj with q|rfl
  ·exact hgo j q
  ·exact hyes h8 hin (Decidable.not_not.1 h10)
theorem ZRU {a:Option Addr}{cap:Nat}{l:List Cn}{wrong:Cn->Int}{h:Heap}{g1 g2:FuncId}{f2:List Value}(hI:TabA ZCz 4 h a l)(hlen:Len l)(hN:∀x∈l,Len (Cn.name x))(hb1:ZAp Tryz.prog g1=true)(hb2:ZAp Tryz.prog g2=true)
  (hp1:(∀h1,Ext h h1->∀x,x∈l->Sv Tryz.prog g1 ([]++([.agg ⟨ZCz x⟩]++[])) h1 (RetP fun v h'=>v=str (Cn.name x)/\Ext h1 h')))
  (hp2:(∀h1,Ext h h1->∀x,x∈l->Sv Tryz.prog g2 ([]++([.agg ⟨ZCz x⟩]++f2)) h1 (RetP fun v h'=>v=i64 (wrong x)/\Ext h1 h'))) :
  Sv Tryz.prog 74 [.slice a l.length cap,.func (.func g1) ⟨[]⟩ ⟨[]⟩,.func (.func g2) ⟨[]⟩ ⟨f2⟩] h (RetP fun v h'=>ZVW (NmOk Cn.name wrong l) v/\Ext h h'):=by
 refine ZA5 fun hw=>?_;refine ZAG Tryz.func74 rfl (by rw[Tryz.ntmps74];rfl) ?_;show Wc Tryz.prog ⟨74,44,none⟩ _ _ _ _ _;refine zy ?_;refine ZCe rfl rfl fun h6 hE6 hW6 hg6 hn6=>?_;have hI0:NmI h h6 h.nx []:=⟨hE6,⟨[],ZD9.new _ hg6,fun _=>rfl⟩,Nat.le_refl _⟩;generalize hbm:h.nx=bm at *;refine zy ?_
 refine ZAN (fun (k:Nat) m ds h'=>ds=[]/\k<=l.length/\NmI h h' bm ((l.take k).map Cn.name)/\(∀j,j<k->ZDG Cn.name wrong l j) ∧
   AllK m [(1,.func (.func g1) ⟨[]⟩ ⟨[]⟩),(2,.func (.func g2) ⟨[]⟩ ⟨f2⟩),(8,.map (some bm)),(14,.slice a l.length cap),(15,i64 l.length),(16,i64 k)]) (fun k=>l.length-k) 0 ?_ ?_
 ·exact⟨rfl,Nat.zero_le _,hI0,(fun j hj=>absurd hj (Nat.not_lt_zero _)),rfl,rfl,rfl,rfl,rfl,rfl,trivial⟩
 clear hI0 hg6 hE6 hW6 hn6;clear h6;rintro k m ds h1 ⟨rfl,hk,hC,hgo,hall⟩;refine ZBR fun hw1=>?_;refine Wc.le ?_ (Le.kn hall);refine zy ?_;refine zC (ZAU rfl rfl) (fun h6=>?_) (fun h6=>?_);rotate_left
 ·refine zy ?_
  exact ZAC (ZAD rfl ⟨⟨_,0,rfl,fun _=>fun j hj=>hgo j (by omega),fun _=>rfl⟩,hC.ext⟩)
 have hk':k<l.length:=by simpa using h6
 have htk:l.take (k+1)=l.take k++[l[k]]:=by rw[List.take_add_one,List.getElem?_eq_getElem hk'];rfl
 have hxm:=List.getElem_mem hk';have hno:∀{q:Prop},(ZDG Cn.name wrong l k->q)->NmOk Cn.name wrong l->q:=fun f z=>f (z k hk');have hgk:∀{q:Prop},(ZCv (Cn.name l[k])=true->Cn.name l[k] ∉ (l.take k).map Cn.name->wrong l[k]=0->q)->ZDG Cn.name wrong l k->q:=by
  rintro q f ⟨x,e,h1,h2,h3⟩;rw[List.getElem?_eq_getElem hk'] at e;cases e;exact f h1 h2 h3
 have hyes:ZCv (Cn.name l[k])=true->Cn.name l[k] ∉ (l.take k).map Cn.name->wrong l[k]=0->ZDG Cn.name wrong l k:=fun h1 h2 h3=>⟨l[k],List.getElem?_eq_getElem hk',h1,h2,h3⟩;obtain⟨b,o,oa,rfl,row,hrow,hma⟩:=hI k hk';have hxN:=hN _ hxm;generalize hmk:l[k]=x at *;have hx':row=ZCz x:=hma;subst hx';have hrow1:=hC.ext.row hrow;refine zy ?_;refine zD (A_ix Und.h Tsz.h rfl rfl) ?_;refine ZA2 rfl rfl Zr.h fun h2 hE2 hW2 hg2 hn2=>?_;refine zy ?_;refine ZAf rfl Tsz.h rfl rfl hg2 rfl rfl rfl fun h3 hU3=>?_;have hbmn:bm≠h1.nx:=by
  obtain⟨l,⟨es,c,e1,_⟩,_⟩:=hC.mp;have:=hw1 _ _ e1;omega
 have hC3:=(hC.grow hE2).upd hU3 hw hC.ext.2.1 hbmn;have hg7:=hU3.at';generalize h1.nx=b7 at *;clear hU3;refine zy ?_;refine ZBv rfl rfl rfl rfl rfl hb1 rfl rfl (hp1 h3 hC3.ext _ hxm) fun h4 hE4=>?_;replace hC3:=hC3.grow hE4;replace hg7:=hE4.get hg7;refine zy ?_;refine ZJM rfl rfl rfl rfl rfl Bod.h rfl rfl (ZBc _ _ hxN) (fun h8 h9 hE9=>?_) (fun h8 h9 hE9=>?_);rotate_left
 ·rw[ZEK] at h8
  refine zy ?_;exact ZAC (ZAD rfl ⟨⟨_,6,rfl,fun q=>absurd q (by decide),hno (hgk fun q _ _=>absurd (h8 ▸ q) (by decide))⟩,(hC3.grow hE9).ext⟩)
 rw[ZEK] at h8;replace hC3:=hC3.grow hE9;replace hg7:=hE9.get hg7;obtain⟨l',mp1,mp2⟩:=hC3.mp;refine zy ?_;refine zE (ZJp strK Und.h Zr.h rfl mp1 (k:=Cn.name x) rfl) ?_;rw[mp2]
 by_cases hin:Cn.name x∈(l.take k).map Cn.name
 ·rw[if_pos hin]
  refine zy ?_;exact ZAC (ZAD rfl ⟨⟨_,5,rfl,fun q=>absurd q (by decide),hno (hgk fun _ q _=>absurd hin q)⟩,hC3.ext⟩)
 rw[if_neg hin];refine zy ?_;refine ZBv rfl rfl rfl rfl rfl hb2 rfl rfl (hp2 _ hC3.ext _ hxm) fun h12 hE12=>?_;refine zy ?_;refine zC (ZAh rfl rfl) (fun h10=>?_) (fun h10=>?_)
 ·refine zy ?_
  exact ZAC (ZAD rfl ⟨⟨_,_,rfl,fun q=>absurd q h10,hno (hgk fun _ _ q=>absurd q h10)⟩,(hC3.grow hE12).ext⟩)
 replace hC3:=hC3.grow hE12;obtain⟨l',mp1,mp2⟩:=hC3.mp;refine zy ?_;refine ZGt strK rfl Und.h rfl mp1 (k:=Cn.name x) rfl rfl fun h13 o13 hU13 hM13=>?_;refine zy ?_;refine⟨k+1,?_,rfl,hk',?_,?_,rfl,rfl,rfl,rfl,rfl,rfl,trivial⟩
 ·show l.length-(k+1)<l.length-k;omega
 ·rw[htk,List.map_append]
  refine⟨hU13.ext hC3.ext hw hC3.lt,⟨_,hM13,?_⟩,hC3.lt⟩;exact fun x=>ZTb mp2 x
 ·intro j hj
  rcases Nat.lt_succ_iff_lt_or_eq.1 hj with q|rfl
  ·exact hgo j q
  ·exact hyes h8 hin (Decidable.not_not.1 h10)
theorem ZVZ (x:Rm)(h:Heap):Sv Tryz.prog 72 ([]++([.agg ⟨ZB3 x⟩]++[])) h (RetP fun v h'=>v=str x.name/\Ext h h'):=by
 refine ZA5 fun hw=>?_;refine ZAG Tryz.func72 rfl (by rw[Tryz.ntmps72];rfl) ?_;show Wc Tryz.prog ⟨72,5,none⟩ _ _ _ _ _;refine zy ?_;refine ZAn rfl rfl rfl fun h1 hE1 hW1 hg1 hn1=>?_;refine zy ?_;exact ZAC (ZAD rfl ⟨rfl,hE1⟩)
theorem ZVV (x:Cn)(h:Heap):Sv Tryz.prog 75 ([]++([.agg ⟨ZCz x⟩]++[])) h (RetP fun v h'=>v=str x.name/\Ext h h'):=by
 refine ZA5 fun hw=>?_;refine ZAG Tryz.func75 rfl (by rw[Tryz.ntmps75];rfl) ?_;show Wc Tryz.prog ⟨75,5,none⟩ _ _ _ _ _;refine zy ?_;refine ZAn rfl rfl rfl fun h1 hE1 hW1 hg1 hn1=>?_;refine zy ?_;exact ZAC (ZAD rfl ⟨rfl,hE1⟩)
def ZCZ (n:Nat)(c:Cn):Int:=if c.base<1\/3<c.base then 2 else if c.frames<1\/200000<c.frames then 7 else if c.room<0\/(n:Int)-1<c.room then 4 else 0
abbrev siT:TypeId:=28
theorem ZVM {h:Heap}{b1:Nat}{s:Si}{d:SAd}(hn:Len s.rooms)(hg:h.get b1=some (.cells (ZFh s d) siT false))(x:Cn):Sv Tryz.prog 76 ([]++([.agg ⟨ZCz x⟩]++[.pointer (some ⟨b1,0,none⟩)])) h (RetP fun v h'=>v=i64 (ZCZ s.rooms.length x)/\Ext h h'):=by
 refine ZA5 fun hw=>?_;unfold ZCZ;obtain⟨ar,cr,ac,cc,ast,cst⟩:=d;refine ZAG Tryz.func76 rfl (by rw[Tryz.ntmps76];rfl) ?_;show Wc Tryz.prog ⟨76,20,none⟩ _ _ _ _ _;refine zy ?_;refine ZAn rfl rfl rfl fun h1 hE1 hW1 hg1 hn1=>?_;have k1:=hE1.get hg;refine zy ?_
 by_cases c1:x.base<1\/3<x.base
 ·refine zU (ZAt (decide_eq_true c1) _) ?_
  rw[if_pos c1];refine zy ?_;exact ZAC (ZAD rfl ⟨rfl,hE1⟩)
 refine zU (ZAt (decide_eq_false c1) _) ?_;rw[if_neg c1];refine zy ?_
 by_cases c2:x.frames<1\/200000<x.frames
 ·refine zU (ZAt (decide_eq_true c2) _) ?_
  rw[if_pos c2];refine zy ?_;exact ZAC (ZAD rfl ⟨rfl,hE1⟩)
 refine zU (ZAt (decide_eq_false c2) _) ?_;rw[if_neg c2];refine zy ?_
 by_cases c3:x.room<0\/(s.rooms.length:Int)-1<x.room
 ·refine zU (ZAt (decide_eq_true c3) _) ?_
  rw[if_pos c3];refine zy ?_;exact ZAC (ZAD rfl ⟨rfl,hE1⟩)
 refine zU (ZAt (decide_eq_false c3) _) ?_;rw[if_neg c3];refine zy ?_;exact ZAC (ZAD rfl ⟨rfl,hE1⟩)
end Go.Dw
namespace Go.Dw
theorem ZFN {n r:Int}(hn:-100000<=n/\n<=100000)(hr:1<=r/\r<=100):(n<=0->n<=ZCD n r/\ZCD n r<=0)/\(0<=n->0<=ZCD n r/\ZCD n r<=n):=by
 unfold ZCD;refine⟨fun h=>?_,fun h=>?_⟩
 ·have h1:n*100<=n*r:=Int.mul_le_mul_of_nonpos_left h hr.2
  have h2:n*r<=0:=Int.mul_nonpos_of_nonpos_of_nonneg h (by omega);generalize n*r=q at *
  split
  ·rw[Int.tdiv_eq_ediv_of_nonneg (by omega)];omega
  ·rw[Int.tdiv_eq_ediv_of_nonneg (by omega)];omega
 ·have h1:n*r<=n*100:=Int.mul_le_mul_of_nonneg_left hr.2 h
  have h2:0<=n*r:=Int.mul_nonneg h (by omega);generalize n*r=q at *;rw[if_neg (by omega),Int.tdiv_eq_ediv_of_nonneg h2];omega
def Tmp2 (t:Int×Int):Prop:=(-300<=t.1/\t.1<=600) /\ -300<=t.2/\t.2<=600
theorem ZSW {rlo rhi:Int}{t:Int×Int}{r:Rm}(h1:1<=rlo/\rlo<=100)(h2:1<=rhi/\rhi<=100)(ht:Tmp2 t)(ha:-300<=r.tlo/\r.tlo<=600)(hb:-300<=r.thi/\r.thi<=600):Tmp2 (ZMg rlo rhi t r):=by
 obtain⟨⟨a1,a2⟩,a3,a4⟩:=ht
 have e1:=ZFN (n:=r.tlo-t.1) (r:=if r.tlo<t.1 then rhi else rlo) (by omega) (by split <;> omega)
 have e2:=ZFN (n:=t.2-r.thi) (r:=if t.2<r.thi then rhi else rlo) (by omega) (by split <;> omega)
 unfold Tmp2 ZMg;simp only;generalize ZCD (r.tlo-t.1) (if r.tlo<t.1 then rhi else rlo)=p at *;generalize ZCD (t.2-r.thi) (if t.2<r.thi then rhi else rlo)=q at *;omega
theorem ZTX {n:Nat}{can r0:Int}{l:List Mv}(h0:0<=r0/\r0<n)(hl:∀m∈l,0<=m.to/\m.to<n):0<=rmS can r0 l/\rmS can r0 l<n:=by
 unfold rmS;have:∀(r:Int),0<=r/\r<n->0<=l.foldl (ZGv can) r/\l.foldl (ZGv can) r<n:=by
  induction l with
  | nil=>intro r hr;exact hr
  | cons m l ih =>
   intro r hr;rw[List.foldl_cons];refine ih (fun m' hm'=>hl m' (List.mem_cons_of_mem _ hm')) _ ?_;unfold ZGv
   split
   ·exact hl m List.mem_cons_self
   ·exact hr
 exact this r0 h0
theorem ZT6 (kept:List Mv)(h:Int):kN kept h<=kept.length:=by
 unfold kN;exact (List.takeWhile_sublist _).length_le
theorem ZT4 {kept:List Mv}{h:Int}{k:Nat}(hk:k<kN kept h)(hl:k<kept.length):kept[k].hour<=h:=by
 induction kept generalizing k with
 | nil=>exact absurd hl (Nat.not_lt_zero _)
 | cons m l ih =>
  by_cases hm:m.hour<=h
  ·have e:kN (m::l) h=kN l h+1:=by unfold kN;rw[List.takeWhile_cons_of_pos (by simpa using hm)];rfl
   cases k with
   | zero=>exact hm
   | succ k=>exact ih (by omega) (by rw[List.length_cons] at hl;omega)
  ·have e:kN (m::l) h=0:=by unfold kN;rw[List.takeWhile_cons_of_neg (by simpa using hm)];rfl
   omega
theorem ZVA {kept:List Mv}{h:Int}(hl:kN kept h<kept.length):¬kept[kN kept h].hour<=h:=by
 induction kept with
 | nil=>exact absurd hl (Nat.not_lt_zero _)
 | cons m l ih =>
  by_cases hm:m.hour<=h
  ·have e:kN (m::l) h=kN l h+1:=by unfold kN;rw[List.takeWhile_cons_of_pos (by simpa using hm)];rfl
   have hl':kN l h<l.length:=by rw[e,List.length_cons] at hl;omega
   have:=ih hl'
   simpa [e] using this
  ·have e:kN (m::l) h=0:=by unfold kN;rw[List.takeWhile_cons_of_neg (by simpa using hm)];rfl
   simpa [e] using hm
theorem ZUZ {kept:List Mv}{h h':Int}(hh:h<=h'):kN kept h<=kN kept h':=by
 apply Nat.le_of_not_lt;intro hlt;have hl:kN kept h'<kept.length:=Nat.lt_of_lt_of_le hlt (ZT6 _ _);have h1:=ZT4 hlt hl;exact ZVA hl (by omega)
theorem ZVY {kept:List Mv}(h:∀m∈kept,0<=m.hour):kN kept (-1)=0:=by
 apply Nat.eq_zero_of_not_pos;intro hlt;have hl:0<kept.length:=Nat.lt_of_lt_of_le hlt (ZT6 _ _);have h1:=ZT4 hlt hl;have:=h _ (List.getElem_mem hl);omega
end Go.Dw
namespace Go.Dw
open Go Go.Dx Go.Proofs
set_option maxRecDepth 100000
abbrev xZ70:List Nat:=[0,1,0,4,0,16,60,0,252,511,0,1024,0,4096,0,16384,61440,0,258556,523772,1048575,2097151]
abbrev xZ71:List Nat:=[0,1,2,3,4,5,6,7,10,11,12,13,14,15,16,17]
abbrev xZ73:List Nat:=[0,1,2,3,4,5,6,7,8,9,10,11,12,13,14,15,16,17,18,19,20]
abbrev xZ77:List Nat:=[2,3,4,5,6,7,8,12,13,14,15,16,17]
abbrev spnT:TypeId:=25
theorem ZPI {h:Heap}{b o n k j:Nat}{vs l:List Value}(hr:ZAw h b o n=some vs)(hl:l.length=j)(hj:0<j)(hc:∀i (hi:i<l.length),nth vs (k+i)=some l[i]):ZAw h b (o+k) j=some l:=by
 subst hl;refine ZEQ hj fun i hi=>?_;rw[Nat.add_assoc];exact ZAK hr (hc i hi)
set_option maxHeartbeats 2000000 in
theorem ZQq {h:Heap}{bv:Nat}{s:Si}{d:SAd}{ak:Option Addr}{ck:Nat}{kept:List Mv}{t:Int×Int}{r:Int}(hV:VtAt h bv s d ak ck kept)(hok:s.Ok)(ht:Tmp2 t)(hr:0<=r/\r<s.rooms.length) :
  Sv Tryz.prog 163 [.pointer (some ⟨bv,0,none⟩),ZOJ t.1 t.2,i64 r] h (RetP fun v h'=>v=ZOJ (ZMg s.rlo s.rhi t (s.rooms.getD r.toNat default)).1 (ZMg s.rlo s.rhi t (s.rooms.getD r.toNat default)).2/\Ext h h'):=by
 refine ZA5 fun hw=>?_;obtain⟨ar,cr,ac,cc,ast,cst⟩:=d;obtain⟨k,rfl⟩:=Int.eq_ofNat_of_zero_le hr.1;have hk:k<s.rooms.length:=by omega
 obtain⟨b,o,oa,ear,row,hrow,hxr⟩:=hV.s.r k hk;have eg:s.rooms.getD (Int.ofNat k).toNat default=s.rooms[k]:=by rw[List.getD_eq_getElem?_getD];show (s.rooms[k]?).getD _=_;rw[List.getElem?_eq_getElem hk];rfl
 have hrt:=(hok.rt _ (List.getElem_mem hk)).1;rw[show ((k:Nat):Int).toNat=(Int.ofNat k).toNat from rfl,eg];generalize s.rooms[k]=x at *;have hx':row=ZB3 x:=hxr;subst hx';replace ear:ar=some ⟨b,o,oa⟩:=ear;subst ear;have hrate:=hok.rate;obtain⟨⟨t1,t2⟩,t3,t4⟩:=ht;have hg:=hV.g;have hr1:ZAw h b (o+k*10+1) 2=some [i64 x.tlo,i64 x.thi]:=by
  have:=ZPI (k:=1) (j:=2) (l:=[i64 x.tlo,i64 x.thi]) hrow rfl (by decide) (fun i hi=>by
   match i,hi with
   | 0,_=>rfl
   | 1,_=>rfl)
  exact this
 unfold ZMg;refine ZAG Tryz.func163 rfl (by rw[Tryz.ntmps163];rfl) ?_;show Wc Tryz.prog ⟨163,64,none⟩ _ _ _ _ _;refine zy ?_;refine ZAn rfl rfl rfl fun h1 hE1 hW1 hg1 hn1=>?_;refine zy ?_;refine ZA2 rfl rfl Zr.h fun h2 hE2 hW2 hg2 hn2=>?_;have k1:=hE2.get hg1;have hE12:=hE1.trans hE2;have hb1:h1.nx≠h.nx:=by omega
 generalize hq4:h.nx=b4 at *;generalize hq6:h1.nx=b6 at *;have kV:=hE12.get hg;have kr:=hE12.row hr1;have hEa:=Ext.add hW2 (.cells [i64 0,i64 0] spnT false);have hEb:=hEa.trans (Ext.add (hW2.add _) (.cells [i64 0,i64 0] spnT false));have ga:((h2.add (.cells [i64 0,i64 0] spnT false)).add (.cells [i64 0,i64 0] spnT false)).get h2.nx=some (.cells [i64 0,i64 0] spnT false):=(Ext.add (hW2.add _) _).get Heap.get_add_same;have gb:((h2.add (.cells [i64 0,i64 0] spnT false)).add (.cells [i64 0,i64 0] spnT false)).get (h2.nx+1)=some (.cells [i64 0,i64 0] spnT false):=Heap.get_add_same;have kVb:=hEb.get kV
 have krb:=hEb.row kr;refine zy ?_;refine ZAL hmix [0,1,3,7,15,0,63,127,255,0,512,1536,3584,7680,0,0,49663,131071] [0,1,2,3,4,5,6,7,8,9,10,11,12,13,14,15] (some 16) [([],(some 17)),([],none)] (by kernel_rfl) (by kernel_rfl) ?_;refine z_m ?_;refine z_q ?_;refine z_f ?_;refine z_f ?_;refine z_l ?_;refine z_m ?_;refine ZAB rfl rfl rfl rfl rfl (fun _=>ZAE (k:=k) Und.h Tsz.h rfl rfl rfl hk) ?_;refine z_f ?_;refine z_r ?_;refine z_m ?_;refine z_q ?_;refine z_f ?_;refine z_f ?_;refine z_r ?_;refine ZDS (nk:=.ptr) rfl rfl rfl rfl rfl (fun _ _ _=>ZHR Zr.h) ?_;refine ZDS (nk:=.ptr) rfl rfl rfl rfl rfl (fun _ _ _=>ZHR Zr.h) ?_
 refine ZAI (h1:=(Heap.add (Heap.add h2 _) _)) [0,1,2,3,4,5,6,7,8,14,15] (by kernel_rfl) rfl (ZAA rfl) rfl rfl rfl (ZAu (ZA1 (r:=[i64 x.tlo,i64 x.thi]) rfl rfl Tsz.h rfl rfl ga rfl rfl rfl (fun h3 hU3 hW3=>?_)));have hE3:=hU3.ext hEb hW2 (Nat.le_refl _);have gb3:=hU3.get (show h2.nx+1≠h2.nx by omega) gb;have kV3:=hE3.get kV;refine ZAI (h1:=h3) [0,1,2,3,4,5,6,7,8,9,10,11,12,13,14,15,16] (by kernel_rfl) rfl (by refine t_r 13 ?_;refine t_f 12 ?_;refine t_f 11 ?_;refine t_q 10 ?_;refine t_m 9 ?_;exact ZAA rfl) rfl rfl rfl (ZAu (ZA1 (r:=[i64 s.rlo,i64 s.rhi]) rfl rfl Tsz.h rfl rfl gb3 rfl rfl rfl (fun h4 hU4 hW4=>?_)))
 refine ZAO (h1:=h4) (ZAA rfl) rfl ?_;have hE4:=hU4.ext hE3 hW2 (Nat.le_succ _);have g8:=hU4.at';have g7:=hU4.get (show h2.nx≠h2.nx+1 by omega) hU3.at';have g4:=hE4.get k1;have g6:=hE4.get hg2;have hEh4:=hE12.trans hE4;have hn6:b6<h2.nx:=by omega
 have hx2:h2.nx<h4.nx:=by have:=hE4.2.1;have:=hU4.nx;have:=hU3.nx;have:=hEb.2.1;show h2.nx<h4.nx;rw[hU4.nx,hU3.nx];exact Nat.lt_succ_of_lt (Nat.lt_succ_self _)
 clear kV3 gb3 hU3 hU4 hEa hEb ga gb kVb krb hE3 k1;generalize h2.nx=b7 at *;refine zy ?_;refine ZAL hmix [0,1,0,4,3,31] [0,1,2,3] (some 4) [([],(some 5)),([],none)] (by kernel_rfl) (by kernel_rfl) ?_;refine z_f ?_;refine z_l ?_;refine z_f ?_;refine z_l ?_;refine ZAI [0,1] (by kernel_rfl) rfl (ZAA rfl) rfl nb rfl (ZCU rfl rfl (ZAj rfl) ?_);refine ZAI [0,1,2,3,4] (by kernel_rfl) rfl (by refine t_l 3 ?_;refine t_f 2 ?_;exact ZAA rfl) rfl nb rfl (ZCU rfl rfl (ZAj rfl) ?_);refine ZAO (ZAA rfl) nb' ?_
 have p1:=ZFN (n:=x.tlo-t.1) (r:=if x.tlo<t.1 then s.rhi else s.rlo) (by omega) (by split <;> omega)
 have p2:=ZFN (n:=t.2-x.thi) (r:=if t.2<x.thi then s.rhi else s.rlo) (by omega) (by split <;> omega)
 refine zy ?_;refine zC (ZAU rfl rfl) (fun c1=>?_) (fun c1=>?_)
 ·rw[if_pos c1] at p1 ⊢
  refine zy ?_;refine zC (ZA4 rfl rfl) (fun c2=>?_) (fun c2=>?_)
  ·rw[if_pos c2] at p2 ⊢
   refine zy ?_;refine ZAL hmix xZ70 xZ71 (some 8) [([9],(some 18)),([19,20],(some 21)),([],none)] (by kernel_rfl) (by kernel_rfl) ?_;refine z_f ?_;refine z_l ?_;refine z_f ?_;refine z_l ?_;refine z_f ?_;refine z_l ?_;refine z_u ?_;refine z_m ?_;refine z_f ?_;refine z_l ?_;refine z_f ?_;refine z_l ?_;refine z_f ?_;refine z_l ?_;refine z_u ?_;refine z_m ?_;refine ZAI [2,3,4,5,6,7] (by kernel_rfl) rfl (ZAA rfl) rfl nb rfl (ZAX rfl rfl rfl rfl rfl Bod.h (ZC8 (n:=x.tlo-t.1) (r:=s.rhi) (by omega) (by omega) h4) ?_);refine z_y ?_;refine ZAI xZ77 (by kernel_rfl) rfl (by refine t_m 17 ?_;refine t_u 16 ?_;refine t_l 15 ?_;refine t_f 14 ?_;refine t_l 13 ?_;refine t_f 12 ?_;refine t_l 11 ?_;refine t_f 10 ?_;refine t_l 1 ?_;refine t_f 0 ?_;exact ZAA rfl) rfl nb rfl (ZAX rfl rfl rfl rfl rfl Bod.h (ZC8 (n:=t.2-x.thi) (r:=s.rhi) (by omega) (by omega) h4) ?_)
   refine z_u ?_;refine z_b ?_;refine ZAI xZ73 (by kernel_rfl) rfl (by refine t_y 9 ?_;refine t_l 11 ?_;refine t_f 10 ?_;refine t_l 1 ?_;refine t_f 0 ?_;exact ZAA rfl) rfl nb rfl (ZAu (ZA1 (r:=[i64 (t.1+ZCD (x.tlo-t.1) s.rhi),i64 (t.2-ZCD (t.2-x.thi) s.rhi)]) rfl rfl Tsz.h rfl rfl g6 rfl rfl rfl (fun h5 hU5 hW5=>?_)));refine ZAO (ZAA rfl) nb' ?_;have hE5:=hU5.ext hEh4 hw (by omega);refine zy ?_;exact ZAC (ZAD (ZBT rfl (ZBp RowC.h (ZAP hU5.at' rfl)) rfl) ⟨rfl,hE5⟩)
  ·rw[if_neg c2] at p2 ⊢
   refine zy ?_;refine ZAL hmix xZ70 xZ71 (some 8) [([9],(some 18)),([19,20],(some 21)),([],none)] (by kernel_rfl) (by kernel_rfl) ?_;refine z_f ?_;refine z_l ?_;refine z_f ?_;refine z_l ?_;refine z_f ?_;refine z_l ?_;refine z_u ?_;refine z_m ?_;refine z_f ?_;refine z_l ?_;refine z_f ?_;refine z_l ?_;refine z_f ?_;refine z_l ?_;refine z_u ?_;refine z_m ?_;refine ZAI [2,3,4,5,6,7] (by kernel_rfl) rfl (ZAA rfl) rfl nb rfl (ZAX rfl rfl rfl rfl rfl Bod.h (ZC8 (n:=x.tlo-t.1) (r:=s.rhi) (by omega) (by omega) h4) ?_);refine z_y ?_;refine ZAI xZ77 (by kernel_rfl) rfl (by refine t_m 17 ?_;refine t_u 16 ?_;refine t_l 15 ?_;refine t_f 14 ?_;refine t_l 13 ?_;refine t_f 12 ?_;refine t_l 11 ?_;refine t_f 10 ?_;refine t_l 1 ?_;refine t_f 0 ?_;exact ZAA rfl) rfl nb rfl (ZAX rfl rfl rfl rfl rfl Bod.h (ZC8 (n:=t.2-x.thi) (r:=s.rlo) (by omega) (by omega) h4) ?_)
   refine z_u ?_;refine z_b ?_;refine ZAI xZ73 (by kernel_rfl) rfl (by refine t_y 9 ?_;refine t_l 11 ?_;refine t_f 10 ?_;refine t_l 1 ?_;refine t_f 0 ?_;exact ZAA rfl) rfl nb rfl (ZAu (ZA1 (r:=[i64 (t.1+ZCD (x.tlo-t.1) s.rhi),i64 (t.2-ZCD (t.2-x.thi) s.rlo)]) rfl rfl Tsz.h rfl rfl g6 rfl rfl rfl (fun h5 hU5 hW5=>?_)));refine ZAO (ZAA rfl) nb' ?_;have hE5:=hU5.ext hEh4 hw (by omega);refine zy ?_;exact ZAC (ZAD (ZBT rfl (ZBp RowC.h (ZAP hU5.at' rfl)) rfl) ⟨rfl,hE5⟩)
 ·rw[if_neg c1] at p1 ⊢
  refine zy ?_;refine zC (ZA4 rfl rfl) (fun c2=>?_) (fun c2=>?_)
  ·rw[if_pos c2] at p2 ⊢
   refine zy ?_;refine ZAL hmix xZ70 xZ71 (some 8) [([9],(some 18)),([19,20],(some 21)),([],none)] (by kernel_rfl) (by kernel_rfl) ?_;refine z_f ?_;refine z_l ?_;refine z_f ?_;refine z_l ?_;refine z_f ?_;refine z_l ?_;refine z_u ?_;refine z_m ?_;refine z_f ?_;refine z_l ?_;refine z_f ?_;refine z_l ?_;refine z_f ?_;refine z_l ?_;refine z_u ?_;refine z_m ?_;refine ZAI [2,3,4,5,6,7] (by kernel_rfl) rfl (ZAA rfl) rfl nb rfl (ZAX rfl rfl rfl rfl rfl Bod.h (ZC8 (n:=x.tlo-t.1) (r:=s.rlo) (by omega) (by omega) h4) ?_);refine z_y ?_;refine ZAI xZ77 (by kernel_rfl) rfl (by refine t_m 17 ?_;refine t_u 16 ?_;refine t_l 15 ?_;refine t_f 14 ?_;refine t_l 13 ?_;refine t_f 12 ?_;refine t_l 11 ?_;refine t_f 10 ?_;refine t_l 1 ?_;refine t_f 0 ?_;exact ZAA rfl) rfl nb rfl (ZAX rfl rfl rfl rfl rfl Bod.h (ZC8 (n:=t.2-x.thi) (r:=s.rhi) (by omega) (by omega) h4) ?_)
   refine z_u ?_;refine z_b ?_;refine ZAI xZ73 (by kernel_rfl) rfl (by refine t_y 9 ?_;refine t_l 11 ?_;refine t_f 10 ?_;refine t_l 1 ?_;refine t_f 0 ?_;exact ZAA rfl) rfl nb rfl (ZAu (ZA1 (r:=[i64 (t.1+ZCD (x.tlo-t.1) s.rlo),i64 (t.2-ZCD (t.2-x.thi) s.rhi)]) rfl rfl Tsz.h rfl rfl g6 rfl rfl rfl (fun h5 hU5 hW5=>?_)));refine ZAO (ZAA rfl) nb' ?_;have hE5:=hU5.ext hEh4 hw (by omega);refine zy ?_;exact ZAC (ZAD (ZBT rfl (ZBp RowC.h (ZAP hU5.at' rfl)) rfl) ⟨rfl,hE5⟩)
  ·rw[if_neg c2] at p2 ⊢
   refine zy ?_;refine ZAL hmix xZ70 xZ71 (some 8) [([9],(some 18)),([19,20],(some 21)),([],none)] (by kernel_rfl) (by kernel_rfl) ?_;refine z_f ?_;refine z_l ?_;refine z_f ?_;refine z_l ?_;refine z_f ?_;refine z_l ?_;refine z_u ?_;refine z_m ?_;refine z_f ?_;refine z_l ?_;refine z_f ?_;refine z_l ?_;refine z_f ?_;refine z_l ?_;refine z_u ?_;refine z_m ?_;refine ZAI [2,3,4,5,6,7] (by kernel_rfl) rfl (ZAA rfl) rfl nb rfl (ZAX rfl rfl rfl rfl rfl Bod.h (ZC8 (n:=x.tlo-t.1) (r:=s.rlo) (by omega) (by omega) h4) ?_);refine z_y ?_;refine ZAI xZ77 (by kernel_rfl) rfl (by refine t_m 17 ?_;refine t_u 16 ?_;refine t_l 15 ?_;refine t_f 14 ?_;refine t_l 13 ?_;refine t_f 12 ?_;refine t_l 11 ?_;refine t_f 10 ?_;refine t_l 1 ?_;refine t_f 0 ?_;exact ZAA rfl) rfl nb rfl (ZAX rfl rfl rfl rfl rfl Bod.h (ZC8 (n:=t.2-x.thi) (r:=s.rlo) (by omega) (by omega) h4) ?_)
   refine z_u ?_;refine z_b ?_;refine ZAI xZ73 (by kernel_rfl) rfl (by refine t_y 9 ?_;refine t_l 11 ?_;refine t_f 10 ?_;refine t_l 1 ?_;refine t_f 0 ?_;exact ZAA rfl) rfl nb rfl (ZAu (ZA1 (r:=[i64 (t.1+ZCD (x.tlo-t.1) s.rlo),i64 (t.2-ZCD (t.2-x.thi) s.rlo)]) rfl rfl Tsz.h rfl rfl g6 rfl rfl rfl (fun h5 hU5 hW5=>?_)));refine ZAO (ZAA rfl) nb' ?_;have hE5:=hU5.ext hEh4 hw (by omega);refine zy ?_;exact ZAC (ZAD (ZBT rfl (ZBp RowC.h (ZAP hU5.at' rfl)) rfl) ⟨rfl,hE5⟩)
abbrev xZ80:List Nat:=[0,1,2,3,4,5,6,7,8,9]
abbrev xZ81:List Nat:=[0,1,2,3,4,5,6,7,8]
abbrev xZ82:List Nat:=[0,1,3,7,0,31,63,127,0,511]
theorem ZAW {α:Type} [Inhabited α]{l:List α}{k:Nat}(hk:k<l.length):l.getD k default=l[k]:=by rw[List.getD_eq_getElem?_getD,List.getElem?_eq_getElem hk];rfl
theorem ZNK {s:Si}{kept:List Mv}{cn:Nat}(hok:s.Ok)(hm:Mvs s.cans.length s.rooms.length kept)(hc:cn<s.cans.length):∀n,Tmp2 (tmS s kept (cn:Nat) n)
 | 0=>by
  have hr:=hok.cans.room _ (List.getElem_mem hc)
  show Tmp2 ((s.rooms.getD (s.cans.getD ((cn:Nat):Int).toNat default).room.toNat default).tlo,(s.rooms.getD (s.cans.getD ((cn:Nat):Int).toNat default).room.toNat default).thi)
  rw[show ((cn:Nat):Int).toNat=cn by omega,ZAW hc];have hk:s.cans[cn].room.toNat<s.rooms.length:=by omega
  rw[ZAW hk];have:=(hok.rt _ (List.getElem_mem hk)).1;unfold Tmp2;simp only;omega
 | n+1=>by
  have ih:=ZNK hok hm hc n;have hr:=hok.cans.room _ (List.getElem_mem hc)
  show Tmp2 (ZMg _ _ _ _)
  rw[show ((cn:Nat):Int).toNat=cn by omega,ZAW hc];obtain⟨q1,q2⟩:=ZTX (can:=(cn:Nat)) (l:=kept.take (kN kept (n:Nat))) hr fun m hm'=>hm.to m (List.take_subset _ _ hm');have hk:(rmS (cn:Nat) s.cans[cn].room (kept.take (kN kept (n:Nat)))).toNat<s.rooms.length:=by omega
  rw[ZAW hk];have h1:=(hok.rt _ (List.getElem_mem hk)).1;have h2:=hok.rate;exact ZSW (by omega) (by omega) ih (by omega) (by omega)
def hrS (s:Si)(kept:List Mv)(cn:Nat)(k:Nat):Int:=rmS (cn:Nat) (s.cans.getD cn default).room (kept.take k)
set_option maxHeartbeats 4000000 in
theorem ZTE {h0 hL:Heap}{c1 c2 bv l cn:Nat}{s:Si}{d:SAd}{ak:Option Addr}{ck:Nat}{kept:List Mv}{J:List It->Nat->Heap->Prop}{K:Heap->Prop}(hw0:WF h0)(hV:VtAt h0 bv s d ak ck kept)(hok:s.Ok)(hm:Mvs s.cans.length s.rooms.length kept)(hcn:cn<s.cans.length)
  (hJ0:J [] 0 hL) (hJd:∀I n h',J I n h'->Ext h0 h'/\h'.get c1=some (.cells [.pointer (some ⟨bv,0,none⟩)] 67 false)/\h'.get c2=some (.cells [i64 (cn:Nat)] 3 false)/\∃R,Own h0 h' (I++R))
  (hJt:∀I I' n h1 h2,J I n h1->(∀R,Own h0 h1 (I++R)->Ext h0 h1->Own h0 h2 (I'++R)/\Ext h0 h2)->J I' n h2)
  (hy:∀I n h',n<=2400->J I n h'->Yd Tryz.prog l [ZOJ (tmS s kept (cn:Nat) n).1 (tmS s kept (cn:Nat) n).2,i64 (hrS s kept cn (kN kept (n:Nat)))] h' (fun v h''=>(v=.bool true/\J I (n+1) h'')\/(v=.bool false/\K h''))) :
  Sv Tryz.prog 162 [.func (.yield l) ⟨[]⟩ ⟨[]⟩,.pointer (some ⟨c1,0,none⟩),.pointer (some ⟨c2,0,none⟩)] hL (RetP fun _ h'=>(∃I,J I 2401 h')\/K h'):=by
 refine ZA5 fun hwL=>?_;obtain⟨ar,cr,ac,cc,ast,cst⟩:=d;obtain⟨hE0,g1,g2,R0,hO0⟩:=hJd _ _ _ hJ0;have hr0:=hok.cans.room _ (List.getElem_mem hcn);obtain⟨b,o,oa,eac,row,hrow,hxr⟩:=hV.s.c cn hcn;have hT0:tmS s kept (cn:Nat) 0=((s.rooms.getD (s.cans[cn]).room.toNat default).tlo,(s.rooms.getD (s.cans[cn]).room.toNat default).thi):=by
  show ((s.rooms.getD (s.cans.getD ((cn:Nat):Int).toNat default).room.toNat default).tlo,(s.rooms.getD (s.cans.getD ((cn:Nat):Int).toNat default).room.toNat default).thi)=_
  rw[show ((cn:Nat):Int).toNat=cn by omega,ZAW hcn]
 have hR0:hrS s kept cn 0=(s.cans[cn]).room:=by
  show (s.cans.getD cn default).room=_
  rw[ZAW hcn]
 generalize s.cans[cn]=c at *;have hx':row=ZCz c:=hxr;subst hx';replace eac:ac=some ⟨b,o,oa⟩:=eac;subst eac;have hkr:c.room.toNat<s.rooms.length:=by omega
 obtain⟨br,oR,oaR,ear,rowr,hrowr,hxrr⟩:=hV.s.r c.room.toNat hkr;rw[ZAW hkr] at hT0;generalize s.rooms[c.room.toNat]=x at *;have hx'':rowr=ZB3 x:=hxrr;subst hx'';replace ear:ar=some ⟨br,oR,oaR⟩:=ear;subst ear
 have hr1:ZAw h0 br (oR+c.room.toNat*10+1) 2=some [i64 x.tlo,i64 x.thi]:=ZPI (k:=1) (j:=2) (l:=[i64 x.tlo,i64 x.thi]) hrowr rfl (by decide) (fun i hi=>by
  match i,hi with
  | 0,_=>rfl
  | 1,_=>rfl)
 have gV:=hE0.get hV.g;have hc3:ZAS hL b (o+cn*4+3)=some (i64 c.room):=ZAK (k:=3) (hE0.row hrow) rfl;have hr1L:=hE0.row hr1;refine ZAG Tryz.func162 rfl (by rw[Tryz.ntmps162];rfl) ?_;show Wc Tryz.prog ⟨162,78,none⟩ _ _ _ _ _;refine zy ?_;refine ZAL hmix [0,1,3,7,15,0,63,127,255,511] xZ81 (some 9) [([],none)] (by kernel_rfl) (by kernel_rfl) ?_;refine z_l ?_;refine z_q ?_;refine z_f ?_;refine z_f ?_;refine z_l ?_;refine z_l ?_;refine ZAB rfl rfl rfl rfl rfl (fun _=>ZAE (k:=cn) Und.h Tsz.h rfl rfl rfl hcn) ?_;refine z_f ?_;refine z_l ?_;refine ZAI xZ81 (by kernel_rfl) rfl (ZAA rfl) rfl nb rfl (ZCU rfl rfl (ZAj rfl) ?_)
 refine ZAO (ZAA rfl) nb' ?_;refine zy ?_;refine zD (ZAE (k:=c.room.toNat) Und.h Tsz.h rfl rfl (by omega) hkr) ?_;refine ZAJ rfl rfl Zr.h Tsz.h rfl (fun _=>rfl) rfl rfl rfl fun h1 hE1 hW1 hg1 hn1=>?_;have hJ1:J [ceI hL.nx [i64 (tmS s kept (cn:Nat) 0).1,i64 (tmS s kept (cn:Nat) 0).2] spnT false] 0 h1:=hJt [] _ 0 hL h1 hJ0 fun R hO hE=>⟨hO.newCe hwL hE.2.1 hE1 (by rw[hT0];exact hg1) (Nat.le_refl _),hE.trans hE1⟩;clear hJ0 hO0 hg1 hE1 hW1 hr1L hc3 gV g1 g2 hE0;generalize hL.nx=b5 at *;have hk0:kN kept (-1)=0:=ZVY fun m hm'=>(hm.hour m hm').1;have e0:kN kept (((0:Nat):Int)-1)=0:=hk0;refine zy ?_;refine ZAN (fun (n:Nat) m ds h'=>ds=[]/\n<=2401/\J [ceI b5 [i64 (tmS s kept (cn:Nat) n).1,i64 (tmS s kept (cn:Nat) n).2] spnT false] n h'/\AllK m [(0,.func (.yield l) ⟨[]⟩ ⟨[]⟩),(1,.pointer (some ⟨c1,0,none⟩)),(2,.pointer (some ⟨c2,0,none⟩)),(4,i64 (hrS s kept cn (kN kept ((n:Nat)-1)))),(5,.pointer (some ⟨b5,0,none⟩)),(6,i64 (kN kept ((n:Nat)-1):Nat)),(26,i64 (n:Nat))]) (fun n=>2401-n) 0 ?_ ?_
 ·exact⟨rfl,by omega,hJ1,rfl,rfl,rfl,by rw[e0,hR0];rfl,rfl,by rw[e0];rfl,rfl,trivial⟩
 clear hJ1 e0 hT0 hR0;rintro n m ds h2 ⟨rfl,hn,hJ2,hall⟩;refine Wc.le (ZBR fun hW2=>?_) (Le.kn hall);clear hall;obtain⟨hE2,g1,g2,R2,hO2⟩:=hJd _ _ _ hJ2;have g5:h2.get b5=some (.cells [i64 (tmS s kept (cn:Nat) n).1,i64 (tmS s kept (cn:Nat) n).2] spnT false):=hO2.p1;have gV:=hE2.get hV.g;refine zy ?_;refine zC (ZAU rfl rfl) (fun hlt=>?_) (fun hlt=>?_);rotate_left
 ·have hne:n=2401:=by omega
  subst hne;refine zy ?_;exact ZAz rfl (.inl ⟨_,hJ2⟩)
 have hmn:=ZUZ (kept:=kept) (show ((n:Nat):Int)-1<=(n:Nat) by omega);have hkl:=ZT6 kept (n:Nat);have hkl60:=hm.len;refine zy ?_;refine ZAN (fun (k:Nat) m ds h'=>ds=[]/\h2=h'/\k<=kN kept (n:Nat)/\AllK m [(0,.func (.yield l) ⟨[]⟩ ⟨[]⟩),(1,.pointer (some ⟨c1,0,none⟩)),(2,.pointer (some ⟨c2,0,none⟩)),(4,i64 (hrS s kept cn k)),(5,.pointer (some ⟨b5,0,none⟩)),(6,i64 (k:Nat)),(7,i64 (n:Nat)),(26,i64 (n:Nat))]) (fun k=>kept.length-k) (kN kept ((n:Nat)-1)) ?_ ?_
 ·exact⟨rfl,rfl,hmn,rfl,rfl,rfl,rfl,rfl,rfl,rfl,rfl,trivial⟩
 rintro k m ds _ ⟨rfl,rfl,hk,hall⟩;refine Wc.le ?_ (Le.kn hall);clear hall;have en:(((n+1:Nat):Int)-1)=(n:Nat):=by omega
 have hrr:0<=hrS s kept cn (kN kept (n:Nat))/\hrS s kept cn (kN kept (n:Nat))<s.rooms.length:=by
  unfold hrS;rw[ZAW hcn];exact ZTX (hok.cans.room _ (List.getElem_mem hcn)) fun m hm'=>hm.to m (List.take_subset _ _ hm')
 refine zy ?_
 by_cases hkl2:k<kept.length
 rotate_left
 ·have hke:k=kN kept (n:Nat):=by omega
  refine zE (A_ff (by omega) (ZAU rfl rfl)) ?_;subst hke;refine zy ?_;refine ZJy rfl rfl rfl rfl rfl rfl rfl (hy _ n _ (by omega) hJ2) ?_;rintro _ h4 (⟨rfl,hJ4⟩|⟨rfl,hK⟩);rotate_left
  ·refine zy ?_
   exact ZAC (ZAD rfl (.inr hK))
  obtain⟨hE4,g14,g24,R4,hO4⟩:=hJd _ _ _ hJ4;have g54:h4.get b5=some (.cells [i64 (tmS s kept (cn:Nat) n).1,i64 (tmS s kept (cn:Nat) n).2] spnT false):=hO4.p1;refine zy ?_;refine zW (ZQq (hV.ext hE4) hok (ZNK hok hm hcn n) hrr) fun h5 hE5=>?_;refine ZBC fun hW5=>?_;have hJ5:=hJt _ [ceI b5 [i64 (tmS s kept (cn:Nat) n).1,i64 (tmS s kept (cn:Nat) n).2] spnT false] _ h4 h5 hJ4 fun R hO hE=>⟨hO.ext hE5,hE.trans hE5⟩;have g55:=hE5.get g54;refine zy ?_;refine ZAf (r:=[i64 (tmS s kept (cn:Nat) (n+1)).1,i64 (tmS s kept (cn:Nat) (n+1)).2]) rfl Tsz.h rfl rfl g55 rfl rfl rfl fun h6 hU6=>?_;have hJ6:=hJt _ [ceI b5 [i64 (tmS s kept (cn:Nat) (n+1)).1,i64 (tmS s kept (cn:Nat) (n+1)).2] spnT false] _ h5 h6 hJ5 fun R hO hE=>hO.putCe hW5 hE hw0 hU6
  refine zy ?_;exact⟨n+1,(by show 2401-(n+1)<2401-n;omega),rfl,by omega,hJ6,rfl,rfl,rfl,by rw[en];rfl,rfl,by rw[en];rfl,rfl,trivial⟩
 refine zE (A_tt (by omega) (ZAU rfl rfl)) ?_;obtain⟨bk,ok,oak,eak,rowk,hrowk,hxk⟩:=hV.k k hkl2;have hst:hrS s kept cn (k+1)=ZGv (cn:Nat) (hrS s kept cn k) kept[k]:=by
  unfold hrS;rw[List.take_add_one,List.getElem?_eq_getElem hkl2,Option.toList_some,ZRq]
 have hkm:kept[k].hour<=(n:Nat) ↔ k<kN kept (n:Nat):=by
  constructor
  ·intro hh
   apply Nat.lt_of_le_of_ne hk;intro e;subst e;exact ZVA hkl2 hh
  ·intro hh
   exact ZT4 hh hkl2
 generalize kept[k]=mv at *;have hxk':rowk=ZBW mv:=hxk;subst hxk';subst eak;have hrk2:=hE2.row hrowk;have hc0':ZAS h2 bk (ok+k*3+0)=some (i64 mv.hour):=ZAK (k:=0) hrk2 rfl;refine zy ?_;refine zD (ZAE (k:=k) Und.h Tsz.h rfl rfl rfl hkl2) ?_;refine zC (ZEL rfl rfl) (fun hle=>?_) (fun hle=>?_);rotate_left
 ·have hke:k=kN kept (n:Nat):=by
   have:=mt hkm.2 hle;omega
  subst hke;refine zy ?_;refine ZJy rfl rfl rfl rfl rfl rfl rfl (hy _ n _ (by omega) hJ2) ?_;rintro _ h4 (⟨rfl,hJ4⟩|⟨rfl,hK⟩);rotate_left
  ·refine zy ?_
   exact ZAC (ZAD rfl (.inr hK))
  obtain⟨hE4,g14,g24,R4,hO4⟩:=hJd _ _ _ hJ4;have g54:h4.get b5=some (.cells [i64 (tmS s kept (cn:Nat) n).1,i64 (tmS s kept (cn:Nat) n).2] spnT false):=hO4.p1;refine zy ?_;refine zW (ZQq (hV.ext hE4) hok (ZNK hok hm hcn n) hrr) fun h5 hE5=>?_;refine ZBC fun hW5=>?_;have hJ5:=hJt _ [ceI b5 [i64 (tmS s kept (cn:Nat) n).1,i64 (tmS s kept (cn:Nat) n).2] spnT false] _ h4 h5 hJ4 fun R hO hE=>⟨hO.ext hE5,hE.trans hE5⟩;have g55:=hE5.get g54;refine zy ?_;refine ZAf (r:=[i64 (tmS s kept (cn:Nat) (n+1)).1,i64 (tmS s kept (cn:Nat) (n+1)).2]) rfl Tsz.h rfl rfl g55 rfl rfl rfl fun h6 hU6=>?_;have hJ6:=hJt _ [ceI b5 [i64 (tmS s kept (cn:Nat) (n+1)).1,i64 (tmS s kept (cn:Nat) (n+1)).2] spnT false] _ h5 h6 hJ5 fun R hO hE=>hO.putCe hW5 hE hw0 hU6
  refine zy ?_;exact⟨n+1,(by show 2401-(n+1)<2401-n;omega),rfl,by omega,hJ6,rfl,rfl,rfl,by rw[en];rfl,rfl,by rw[en];rfl,rfl,trivial⟩
 have hk1:=hkm.1 hle;have hc1':ZAS h2 bk (ok+k*3+1)=some (i64 mv.can):=ZAK (k:=1) hrk2 rfl;have hc2':ZAS h2 bk (ok+k*3+2)=some (i64 mv.to):=ZAK (k:=2) hrk2 rfl;refine zy ?_
 by_cases heq:mv.can=(cn:Nat)
 ·refine ZAL hmix xZ82 xZ80 none [] (by kernel_rfl) (by kernel_rfl) ?_
  refine z_l ?_;refine z_q ?_;refine z_f ?_;refine z_l ?_;refine z_m ?_;refine ZAB rfl rfl rfl rfl rfl (fun _=>ZAE (k:=k) Und.h Tsz.h rfl rfl rfl hkl2) ?_;refine z_f ?_;refine z_l ?_;refine z_l ?_;refine ZAB rfl rfl rfl rfl rfl (fun _=>A_tt heq (ZAg rfl rfl)) ?_;refine ZAO (ZAA rfl) nb' ?_;have e2:hrS s kept cn (k+1)=mv.to:=by rw[hst];unfold ZGv;rw[if_pos heq]
  refine zy ?_;refine zD (ZAE (k:=k) Und.h Tsz.h rfl rfl rfl hkl2) ?_;exact⟨k+1,(by show kept.length-(k+1)<kept.length-k;omega),rfl,rfl,hk1,rfl,rfl,rfl,by rw[e2];rfl,rfl,rfl,rfl,rfl,trivial⟩
 ·refine ZAL hmix xZ82 xZ80 none [] (by kernel_rfl) (by kernel_rfl) ?_
  refine z_l ?_;refine z_q ?_;refine z_f ?_;refine z_l ?_;refine z_m ?_;refine ZAB rfl rfl rfl rfl rfl (fun _=>ZAE (k:=k) Und.h Tsz.h rfl rfl rfl hkl2) ?_;refine z_f ?_;refine z_l ?_;refine z_l ?_;refine ZAB rfl rfl rfl rfl rfl (fun _=>A_ff heq (ZAg rfl rfl)) ?_;refine ZAO (ZAA rfl) nb' ?_;have e2:hrS s kept cn (k+1)=hrS s kept cn k:=by rw[hst];unfold ZGv;rw[if_neg heq]
  refine zy ?_;exact⟨k+1,(by show kept.length-(k+1)<kept.length-k;omega),rfl,rfl,hk1,rfl,rfl,rfl,by rw[e2];rfl,rfl,rfl,rfl,rfl,trivial⟩
abbrev ZTp:List Nat:=[0,1,0,4,15,31,63,127,255,511,511,1535,4095,8191,511,16895,511,66047,246271,508415,1032703,2097151,4194303]
abbrev ZTw:List Nat:=[0,1,2,3,4,5,6,7,8,9,10,11,12,13,14,15,16,17,18,19,20,21,22]
abbrev ZUm:List Nat:=[0,1,2,3,4,5,6,7,8]
def prvS (l:List (Int×Int)):Nat->Int×Int
 | 0=>(-1,0)
 | k+1=>l.getD k default
def StOk (l:List (Int×Int))(k:Nat):Prop:=((0<=(l.getD k default).1/\(l.getD k default).1<=10000000)/\0<=(l.getD k default).2/\(l.getD k default).2<=10000)/\(prvS l k).1<(l.getD k default).1/\(prvS l k).2<=(l.getD k default).2
def AmOk (s:Si)(k:Nat):Prop:=(s.cans.getD k default).base=1->(s.rooms.getD (s.cans.getD k default).room.toNat default).allows=true/\(amtK s.rooms.length s.cans (s.cans.map Cn.room) (k+1)).getD (s.cans.getD k default).room.toNat 0<=(s.rooms.getD (s.cans.getD k default).room.toNat default).most
structure ZEs (s:Si):Prop where
 len:(1<=s.rooms.length/\s.rooms.length<=12)/\s.cans.length<=30/\s.steps.length<=8
 rooms:NmOk Rm.name ZBm s.rooms
 cans:NmOk Cn.name (ZCZ s.rooms.length) s.cans
 rate:oddS s.rlo s.rhi 1 100=0
 steps:∀k,k<s.steps.length->StOk s.steps k
 amt:∀k,k<s.cans.length->AmOk s k
 near:ZMf (amtS s.rooms.length s.cans (s.cans.map Cn.room)) s.rooms s.steps=[]
theorem NmOk.wrong {α:Type}{nm:α->List UInt8}{wrong:α->Int}{l:List α}(h:NmOk nm wrong l):∀x∈l,wrong x=0:=by
 intro x hx;obtain⟨k,hk,rfl⟩:=List.getElem_of_mem hx;obtain⟨y,e,_,_,q⟩:=h k hk;rw[List.getElem?_eq_getElem hk] at e;cases e;exact q
theorem ZGT {a b lo hi:Int}(h:oddS a b lo hi=0):lo<=a/\a<=b/\b<=hi:=by
 unfold oddS at h
 split at h
 ·cases h
 split at h
 ·cases h
 omega
theorem ZDR {n:Nat}{c:Cn}(h:ZCZ n c=0):(1<=c.base/\c.base<=3)/\(1<=c.frames/\c.frames<=200000)/\0<=c.room/\c.room<n:=by
 unfold ZCZ at h
 split at h
 ·cases h
 split at h
 ·cases h
 split at h
 ·cases h
 omega
theorem ZFH {x:Rm}(h:ZBm x=0):((-300<=x.tlo/\x.tlo<=x.thi/\x.thi<=600)/\(0<=x.dlo/\x.dlo<=x.dhi/\x.dhi<=1000))/\(0<=x.most/\x.most<=10000000)/\(0<=x.x/\x.x<=10000)/\0<=x.y/\x.y<=10000:=by
 unfold ZBm at h
 split at h
 ·cases h
 rename_i hn
 split at h
 ·rename_i h2;exact absurd h h2
 rename_i h2;have q1:=ZGT (Decidable.not_not.1 h2);have q2:=ZGT h;exact⟨⟨q1,q2⟩,by omega⟩
theorem ZUJ {s:Si}(h1:s.cans.length<=30)(h:NmOk Cn.name (ZCZ s.rooms.length) s.cans):Cans s.rooms.length s.cans:=⟨h1,fun c hc=>(ZDR (h.wrong c hc)).2.2,fun c hc=>(ZDR (h.wrong c hc)).2.1⟩
theorem ZMj {s:Si}(hl:(1<=s.rooms.length/\s.rooms.length<=12)/\s.cans.length<=30/\s.steps.length<=8)(hr:NmOk Rm.name ZBm s.rooms)(hc:NmOk Cn.name (ZCZ s.rooms.length) s.cans)(ho:oddS s.rlo s.rhi 1 100=0)(hs:∀k,k<s.steps.length->StOk s.steps k):s.Ok:=by
 refine⟨hl.1,fun r hm=>(ZFH (hr.wrong r hm)).1,fun r hm=>(ZFH (hr.wrong r hm)).2,ZUJ hl.2.1 hc,ZGT ho,hl.2.2,fun x hx=>?_⟩;obtain⟨k,hk,rfl⟩:=List.getElem_of_mem hx;have:=(hs k hk).1;rw[ZAW hk] at this;exact this
theorem ZEs.ok {s:Si}(h:ZEs s):s.Ok:=ZMj h.len h.rooms h.cans h.rate h.steps
theorem ZTm (cans:List Cn)(h:Int):whrS cans [] h=cans.map Cn.room:=rfl
def ZNR (p:Prop)(v:Value):Prop:=∃a i e:Int,v=.tuple ⟨[i64 a,i64 i,i64 e]⟩/\(e=0 ↔ p)
theorem ZNR.no {p:Prop}{a i e:Int}(he:e≠0)(h:¬p):ZNR p (.tuple ⟨[i64 a,i64 i,i64 e]⟩):=⟨a,i,e,rfl,fun q=>absurd q he,fun q=>absurd q h⟩
abbrev stT:TypeId:=62
set_option maxHeartbeats 2000000 in
theorem ZRO {h:Heap}{s:Si}{d:SAd}(hS:SiAt h s d)(hR:Len s.rooms)(hC:Len s.cans)(hT:Len s.steps)(hNr:∀x∈s.rooms,Len x.name)(hNc:∀x∈s.cans,Len x.name) :
  Sv Tryz.prog 43 [.agg ⟨ZFh s d⟩] h (RetP fun v h'=>Ext h h'/\ZNR (ZEs s) v):=by
 refine ZA5 fun hw=>?_;obtain⟨ar,cr,ac,cc,ast,cst⟩:=d;refine ZAG Tryz.func43 rfl (by rw[Tryz.ntmps43];rfl) ?_;show Wc Tryz.prog ⟨43,145,none⟩ _ _ _ _ _;refine zy ?_;refine ZAn rfl rfl rfl fun h1 hE1 hW1 hg1 hn1=>?_;generalize h.nx=b1 at hg1 ⊢;refine zy ?_
 by_cases c1:(s.rooms.length:Int)<1\/12<(s.rooms.length:Int)
 ·refine zV (ZAt (decide_eq_true c1) _) ?_
  exact ZAC (ZAD rfl ⟨hE1,.no (by decide) fun q=>by have:=q.len;omega⟩)
 refine zV (ZAt (decide_eq_false c1) _) ?_;refine zC (ZA4 rfl rfl) (fun c2=>?_) (fun c2=>?_)
 ·refine zy ?_
  exact ZAC (ZAD rfl ⟨hE1,.no (by decide) fun q=>by have:=q.len;omega⟩)
 refine zy ?_;refine zC (ZA4 rfl rfl) (fun c3=>?_) (fun c3=>?_)
 ·refine zy ?_
  exact ZAC (ZAD rfl ⟨hE1,.no (by decide) fun q=>by have:=q.len;omega⟩)
 have hlen:(1<=s.rooms.length/\s.rooms.length<=12)/\s.cans.length<=30/\s.steps.length<=8:=by omega
 refine zy ?_;refine zR (ZQr (wrong:=ZBm) (f2:=[]) (hS.r.ext' hE1) hR hNr Bod.h Bod.h (fun h1 _ x _=>ZVZ x h1) (fun h1 _ x _=>ZTn x h1)) ?_;rintro _ h2 ⟨⟨i2,e2,rfl,he2⟩,hE2⟩;have hg2:=hE2.get hg1;replace hE2:=hE1.trans hE2;refine zy ?_;refine zC (ZAh rfl rfl) (fun n2=>?_) (fun n2=>?_)
 ·refine zy ?_
  exact ZAC (ZAD rfl ⟨hE2,.no n2 fun q=>n2 (he2.2 q.rooms)⟩)
 replace he2:=he2.1 (Decidable.not_not.1 n2);refine zy ?_;refine zR (ZRU (wrong:=ZCZ s.rooms.length) (f2:=[.pointer (some ⟨b1,0,none⟩)]) (hS.c.ext' hE2) hC hNc Bod.h Bod.h (fun h1 _ x _=>ZVV x h1) (fun h1 hE x _=>ZVM (d:=⟨ar,cr,ac,cc,ast,cst⟩) hR (hE.get hg2) x)) ?_;rintro _ h3 ⟨⟨i3,e3,rfl,he3⟩,hE3⟩;have hg3:=hE3.get hg2;replace hE3:=hE2.trans hE3;refine zy ?_;refine zC (ZAh rfl rfl) (fun n3=>?_) (fun n3=>?_)
 ·refine zy ?_
  exact ZAC (ZAD rfl ⟨hE3,.no n3 fun q=>n3 (he3.2 q.cans)⟩)
 replace he3:=he3.1 (Decidable.not_not.1 n3);refine zy ?_;refine zR (ZRP s.rlo s.rhi 1 100 h3) ?_;rintro _ h4 ⟨rfl,hE4⟩;have hg4:=hE4.get hg3;replace hE4:=hE3.trans hE4;generalize ho:oddS s.rlo s.rhi 1 100=oo;refine zy ?_;refine zC (ZAh rfl rfl) (fun n4=>?_) (fun n4=>?_)
 ·refine zy ?_
  exact ZAC (ZAD rfl ⟨hE4,.no n4 fun q=>n4 (ho ▸ q.rate)⟩)
 replace n4:=Decidable.not_not.1 n4;subst n4;refine ZBC fun hW4=>?_;clear hE1 hE2 hE3 hg1 hg2 hg3 n2 n3 hW1 hn1;refine zy ?_;refine ZAJ rfl rfl Zr.h Tsz.h rfl (fun _=>rfl) rfl rfl rfl fun h5 hE5 hW5 hg5 hn5=>?_;have hE45:=hE5;have hO5:=(Own.nil h4 h4).newCe hW4 (Nat.le_refl _) hE45 hg5 (Nat.le_refl _);generalize h4.nx=b5 at hO5 ⊢;have k5:=hE5.get hg4;refine zy ?_;refine ZAN (fun (k:Nat) m ds h'=>ds=[]/\Ext h4 h'/\k<=s.steps.length/\Own h4 h' [ceI b5 (rowP (prvS s.steps k)) stT false]/\(∀j,j<k->StOk s.steps j)/\AllK m [(1,.pointer (some ⟨b1,0,none⟩)),(5,.pointer (some ⟨b5,0,none⟩)),(57,.slice ast s.steps.length cst),(58,i64 s.steps.length),(59,i64 (k:Nat))]) (fun k=>s.steps.length-k) 0 ?_ ?_
 ·exact⟨rfl,hE5,Nat.zero_le _,hO5,(fun j hj=>absurd hj (Nat.not_lt_zero _)),rfl,rfl,rfl,rfl,rfl,trivial⟩
 clear hO5 hE5 hg5 hW5 hn5 k5 hE45;rintro k m ds h5 ⟨rfl,hE5,hkl,hO5,hst,hall⟩;refine Wc.le (ZBR fun hW5=>?_) (Le.kn hall);clear hall;have hg5:=hE5.get hg4;refine zy ?_;refine zC (ZAU rfl rfl) (fun hlt=>?_) (fun hlt=>?_)
 ·have hk':k<s.steps.length:=by omega
  obtain⟨b,o,oa,eac,row,hrow,hxr⟩:=hS.s k hk';have egx:=ZAW hk';have hno:∀{q:Prop},(StOk s.steps k->q)->ZEs s->q:=fun f z=>f (z.steps k hk');have hst1:=hst;unfold StOk at hno hst1;have hpr:prvS s.steps (k+1)=s.steps.getD k default:=rfl;rw[egx] at hno hpr;have hup:((0<=s.steps[k].1/\s.steps[k].1<=10000000)/\0<=s.steps[k].2/\s.steps[k].2<=10000)/\(prvS s.steps k).1<s.steps[k].1/\(prvS s.steps k).2<=s.steps[k].2->∀j,j<k+1->StOk s.steps j:=by
   intro z j hj
   rcases Nat.lt_succ_iff_lt_or_eq.1 hj with q|rfl
   ·exact hst j q
   ·unfold StOk;rw[egx];exact z
  clear hst hst1 egx;generalize s.steps[k]=x at *;generalize prvS s.steps k=y at *;generalize hz:prvS s.steps (k+1)=z at *;have hx':row=rowP x:=hxr;subst hx';replace eac:ast=some ⟨b,o,oa⟩:=eac;subst eac;have hrow2:=(hE4.trans hE5).row hrow;refine zy ?_;refine zD (A_ix Und.h Tsz.h rfl rfl) ?_;refine ZA2 rfl rfl Zr.h fun hx hEx hWx hgx hnx=>?_;refine zy ?_;refine ZAf rfl Tsz.h rfl rfl hgx rfl rfl rfl fun h6 hU6=>?_;have hE6:Ext h5 h6:=hU6.ext hEx hW5 (Nat.le_refl _);have g66:=hU6.at';have hO6:=hO5.ext hE6;have g56:h6.get b5=some (.cells (rowP y) stT false):=hO6.p1;replace hE6:=hE5.trans hE6;refine zy ?_
  by_cases d1:x.1<0\/10000000<x.1
  ·refine zV (ZAt (decide_eq_true d1) _) ?_
   exact ZAC (ZAD rfl ⟨hE4.trans hE6,.no (by decide) (hno (by omega))⟩)
  refine zV (ZAt (decide_eq_false d1) _) ?_
  by_cases d2:x.2<0\/10000<x.2
  ·refine zV (ZAt (decide_eq_true d2) _) ?_
   exact ZAC (ZAD rfl ⟨hE4.trans hE6,.no (by decide) (hno (by omega))⟩)
  refine zV (ZAt (decide_eq_false d2) _) ?_;refine zC (ZEL rfl rfl) (fun d3=>?_) (fun d3=>?_)
  ·refine zy ?_
   exact ZAC (ZAD rfl ⟨hE4.trans hE6,.no (by decide) (hno (by omega))⟩)
  refine zy ?_;refine zC (ZAU rfl rfl) (fun d4=>?_) (fun d4=>?_)
  ·refine zy ?_
   exact ZAC (ZAD rfl ⟨hE4.trans hE6,.no (by decide) (hno (by omega))⟩)
  refine zy ?_;refine ZB6 (r:=rowP x) hW4 hE6 rfl Tsz.h rfl rfl hO6 rfl rfl rfl fun h7 hW7 hO7 hE7=>?_;refine zy ?_;exact⟨k+1,(by show s.steps.length-(k+1)<s.steps.length-k;omega),rfl,hE7,hk',(by rw[hz,hpr];exact hO7),hup (by omega),rfl,rfl,rfl,rfl,rfl,trivial⟩
 have hst':∀j,j<s.steps.length->StOk s.steps j:=fun j hj=>hst j (by omega);clear hst hO5 hlt hkl;replace hE5:=hE4.trans hE5;clear hE4 hg4 hW4;have hok:=ZMj hlen he2 he3 ho hst';have hcs:=hok.cans;refine zy ?_;refine ZAJ rfl rfl Zr.h Tsz.h rfl (fun _=>rfl) rfl rfl rfl fun h6 hE6 hW6 hg6 hn6=>?_;have hV6:VtAt h6 h5.nx s ⟨ar,cr,ac,cc,ast,cst⟩ none 0 []:=⟨hg6,hS.ext (hE5.trans hE6),fun k hk=>absurd hk (Nat.not_lt_zero k)⟩;generalize h5.nx=b8 at hV6 ⊢;have k6:=hE6.get hg5;replace hE6:=hE5.trans hE6;clear hg6 hn6 hg5 hE5;refine zy ?_;refine ZEN (by':=8) (k:=s.rooms.length) (n:=(s.rooms.length:Nat)) rfl rfl Und.h inferInstance Zr.h rfl rfl rfl (by omega) (by omega) fun h7 hE7 hW7 hg7 hn7=>?_
 have er:rep s.rooms.length (Value.int .i64 0).cells.toList=(amtK s.rooms.length s.cans (s.cans.map Cn.room) 0).map i64:=by
  show _=(List.replicate _ (0:Int)).map i64
  rw[List.map_replicate];exact ZJR _ _
 rw[er] at hg7;have hO7:=(Own.nil h6 h6).newCe hW6 (Nat.le_refl _) hE7 hg7 (Nat.le_refl _);generalize h6.nx=b9 at hO7 ⊢;have k7:=hE7.get k6;refine zy ?_;refine ZAN (fun (k:Nat) m ds h'=>ds=[]/\Ext h6 h'/\k<=s.cans.length/\Own h6 h' [ceI b9 ((amtK s.rooms.length s.cans (s.cans.map Cn.room) k).map i64) 3 false]/\(∀j,j<k->AmOk s j)/\AllK m [(1,.pointer (some ⟨b1,0,none⟩)),(8,.pointer (some ⟨b8,0,none⟩)),(9,.slice (some ⟨b9,0,none⟩) s.rooms.length s.rooms.length),(97,.slice ac s.cans.length cc),(98,i64 s.cans.length),(99,i64 (k:Nat))]) (fun k=>s.cans.length-k) 0 ?_ ?_
 ·exact⟨rfl,hE7,Nat.zero_le _,hO7,(fun j hj=>absurd hj (Nat.not_lt_zero _)),rfl,rfl,rfl,rfl,rfl,rfl,trivial⟩
 clear hO7 hE7 hg7 hW7 hn7 k7;rintro k m ds h7 ⟨rfl,hE7,hkl,hO7,ham,hall⟩;refine Wc.le (ZBR fun hW7=>?_) (Le.kn hall);clear hall;have k7:=hE7.get k6;refine zy ?_;refine zC (ZAU rfl rfl) (fun hlt=>?_) (fun hlt=>?_)
 ·have hk':k<s.cans.length:=by omega
  obtain⟨b,o,oa,eac,row,hrow,hxr⟩:=hS.c k hk';have egx:=ZAW hk';have hcm:=hcs.frames _ (List.getElem_mem hk');have hcr:=hcs.room _ (List.getElem_mem hk');have hInR:InR s.rooms.length (s.cans.map Cn.room):=by
   intro r hr;obtain⟨c,hc,rfl⟩:=List.mem_map.1 hr;exact hcs.room c hc
  have hwl:(s.cans.map Cn.room).length=s.cans.length:=List.length_map _;have egw:(s.cans.map Cn.room).getD k 0=s.cans[k].room:=by rw[List.getD_eq_getElem?_getD,List.getElem?_map,List.getElem?_eq_getElem hk'];rfl
  have hst:amtK s.rooms.length s.cans (s.cans.map Cn.room) (k+1)=ZCy (amtK s.rooms.length s.cans (s.cans.map Cn.room) k) (s.cans.getD k default) ((s.cans.map Cn.room).getD k 0):=rfl;rw[egw,egx] at hst;have hal:=ZDm s.rooms.length s.cans (s.cans.map Cn.room) k;have hbd:=fun {r} (hr:r<s.rooms.length)=>ZPq hInR hwl hcs.frames (k:=k) (by omega) hr;have hno:∀{q:Prop},(AmOk s k->q)->ZEs s->q:=fun f z=>f (z.amt k hk');have hup:AmOk s k->∀j,j<k+1->AmOk s j:=by
   intro z j hj
   rcases Nat.lt_succ_iff_lt_or_eq.1 hj with q|rfl
   ·exact ham j q
   ·exact z
  unfold AmOk at hno hup;rw[egx] at hno;have hup2:(s.cans[k].base=1->(s.rooms.getD s.cans[k].room.toNat default).allows=true/\(amtK s.rooms.length s.cans (s.cans.map Cn.room) (k+1)).getD s.cans[k].room.toNat 0<=(s.rooms.getD s.cans[k].room.toNat default).most)->∀j,j<k+1->AmOk s j:=fun z=>hup (by rw[egx];exact z);clear hup ham egx egw hInR hwl;generalize s.cans[k]=c at *;generalize amtK s.rooms.length s.cans (s.cans.map Cn.room) k=A at *;have hrn:c.room.toNat<s.rooms.length:=by omega
  obtain⟨v1,v2⟩:=hbd hrn;obtain⟨br,orr,oar,ear,rowr,hrowr,hxrr⟩:=hS.r c.room.toNat hrn;have egr:=ZAW hrn;rw[egr] at hno hup2;clear egr;generalize s.rooms[c.room.toNat]=x at *;have hx':row=ZCz c:=hxr;subst hx';have hx':rowr=ZB3 x:=hxrr;subst hx';replace eac:ac=some ⟨b,o,oa⟩:=eac;subst eac;replace ear:ar=some ⟨br,orr,oar⟩:=ear;subst ear;have hEE:=hE6.trans hE7;have hrow2:=hEE.row hrow;refine zy ?_;refine zD (A_ix Und.h Tsz.h rfl rfl) ?_;refine ZA2 rfl rfl Zr.h fun hx hEx hWx hgx hnx=>?_;refine zy ?_;refine ZAf rfl Tsz.h rfl rfl hgx rfl rfl rfl fun h8 hU8=>?_;have hE78:Ext h7 h8:=hU8.ext hEx hW7 (Nat.le_refl _)
  have g8:=hU8.at';have hO8:=(hO7.newCe hW7 hE7.2.1 hE78 g8 (Nat.le_refl _)).up2;have hE8:=hE7.trans hE78;have k8:=hE78.get k7;have hrw8:=(hEE.trans hE78).row hrowr;clear hEx hWx hgx hnx hU8 hrow2 hO7;refine zy ?_
  by_cases hb:c.base=1
  rotate_left
  ·refine zE (A_tt hb (ZAh rfl rfl)) ?_
   have e2:amtK s.rooms.length s.cans (s.cans.map Cn.room) (k+1)=A:=by rw[hst];unfold ZCy;rw[if_neg hb]
   rw[<-e2] at hO8;refine zy ?_;exact⟨k+1,(by show s.cans.length-(k+1)<s.cans.length-k;omega),rfl,hE8,hk',hO8.sub (List.sublist_append_left [_] [_]),hup2 (fun q=>absurd q hb),rfl,rfl,rfl,rfl,rfl,rfl,trivial⟩
  refine zE (A_ff (fun q=>q hb) (ZAh rfl rfl)) ?_;have e2:amtK s.rooms.length s.cans (s.cans.map Cn.room) (k+1)=A.set c.room.toNat (A.getD c.room.toNat 0+c.frames):=by rw[hst];unfold ZCy;rw[if_pos hb]
  have e3:(A.set c.room.toNat (A.getD c.room.toNat 0+c.frames)).getD c.room.toNat 0=A.getD c.room.toNat 0+c.frames:=by rw[List.getD_eq_getElem?_getD,List.getElem?_set_self (by omega)];rfl
  rw[e2,e3] at hno hup2;have hcell:=ZBU hO8.p1 (r:=c.room.toNat) (by omega);generalize A.getD c.room.toNat 0=z at *;refine zy ?_;refine ZAL hmix [0,0,2,7,15,0,32,127,255,511] ZUm (some 9) [([],none)] (by kernel_rfl) (by kernel_rfl) ?_;refine z_m ?_;refine z_f ?_;refine z_l ?_;refine ZAB rfl rfl rfl rfl rfl (fun _=>ZAE (k:=c.room.toNat) Und.h Tsz.h rfl rfl (by omega) (by omega)) ?_;refine z_l ?_;refine z_f ?_;refine z_l ?_;refine z_y ?_;refine ZAB rfl rfl rfl rfl rfl (fun _=>ZAE (k:=c.room.toNat) Und.h Tsz.h rfl rfl (by omega) (by omega)) ?_;refine ZAI ZUm (by kernel_rfl) rfl (ZAA rfl) rfl nb rfl (ZAu (ZHl (r:=(A.set c.room.toNat (z+c.frames)).map i64) rfl hW6 hE8 rfl Tsz.h rfl rfl hO8 rfl rfl (by rw[Nat.zero_add,Nat.mul_one,<-ZHf];exact ZCH (by rw[List.length_map];omega)) (fun h9 hO9 hE9 hw9=>?_)))
  refine ZAO (ZAA rfl) nb' ?_;have hcel9:=ZBU hO9.p1 (r:=c.room.toNat) (by rw[List.length_set];omega);rw[e3] at hcel9;rw[<-e2] at hO9;have k9:=hE9.get k6;have hE89:Ext h h9:=hE6.trans hE9;have g9:h9.get h7.nx=some (.cells (ZCz c) 41 false):=hO9.p2;have hrw9:=hE89.row hrowr;clear k8 g8 hrw8 hO8 hE8 hcell k7 hE7 hE78 hEE;have hO9':=hO9.sub (List.sublist_append_left [_] [_]);have c6:ZAS h9 br (orr+c.room.toNat*10+6)=some (.bool x.allows):=ZAK (k:=6) hrw9 rfl;have c7:ZAS h9 br (orr+c.room.toNat*10+7)=some (i64 x.most):=ZAK (k:=7) hrw9 rfl;clear hrw9 hrowr hrow
  cases hal2:x.allows with
  | false =>
   rw[hal2] at c6 hno;refine zy ?_;refine ZAL hmix ZTp ZTw none [] (by kernel_rfl) (by kernel_rfl) ?_;refine z_f ?_;refine z_l ?_;refine z_f ?_;refine z_l ?_;refine ZAB rfl rfl rfl rfl rfl (fun _=>ZAE (k:=c.room.toNat) Und.h Tsz.h rfl rfl (by omega) (by omega)) ?_;refine z_f ?_;refine z_l ?_;refine z_n ?_;refine z_m ?_;refine g_m ?_;refine g_f ?_;refine g_l ?_;refine z_o ?_;refine g_l ?_;refine g_f ?_;refine g_l ?_;refine g_f ?_;refine g_l ?_;refine z_o ?_;refine g_f ?_;refine g_l ?_;refine z_o ?_;refine z_p ?_;refine ZAO (ZAA rfl) nb' ?_;refine zy ?_;exact ZAC (ZAD rfl ⟨hE89,.no (by decide) (hno fun q=>absurd (q hb).1 (by decide))⟩)
  | true =>
  rw[hal2] at c6 hno hup2;have m9:s.rooms.length<=s.rooms.length:=Nat.le_refl _
  by_cases hmo:x.most<z+c.frames
  ·refine zy ?_
   refine ZAL hmix ZTp ZTw none [] (by kernel_rfl) (by kernel_rfl) ?_;refine z_f ?_;refine z_l ?_;refine z_f ?_;refine z_l ?_;refine ZAB rfl rfl rfl rfl rfl (fun _=>ZAE (k:=c.room.toNat) Und.h Tsz.h rfl rfl (by omega) (by omega)) ?_;refine z_f ?_;refine z_l ?_;refine z_n ?_;refine z_m ?_;refine g_m ?_;refine g_f ?_;refine g_l ?_
   first|refine ZAT rfl rfl rfl rfl ?_|refine ZAB rfl rfl rfl rfl rfl (fun _=>ZAE (k:=c.room.toNat) Und.h Tsz.h rfl rfl (by omega) (by omega)) ?_
   refine g_l ?_;refine g_f ?_;refine g_l ?_;refine g_f ?_;refine g_l ?_
   first|refine ZAT rfl rfl rfl rfl ?_|refine ZAB rfl rfl rfl rfl rfl (fun _=>ZAE (k:=c.room.toNat) Und.h Tsz.h rfl rfl (by omega) (by omega)) ?_
   refine g_f ?_;refine g_l ?_
   first|refine ZAT rfl rfl rfl rfl ?_|refine ZAB rfl rfl rfl rfl rfl (fun _=>A_tt (by omega) (ZA4 rfl rfl)) ?_
   refine z_p ?_;refine ZAO (ZAA rfl) nb' ?_;refine zy ?_;exact ZAC (ZAD rfl ⟨hE89,.no (by decide) (hno fun q=>absurd (q hb).2 (by omega))⟩)
  ·refine zy ?_
   refine ZAL hmix ZTp ZTw none [] (by kernel_rfl) (by kernel_rfl) ?_;refine z_f ?_;refine z_l ?_;refine z_f ?_;refine z_l ?_;refine ZAB rfl rfl rfl rfl rfl (fun _=>ZAE (k:=c.room.toNat) Und.h Tsz.h rfl rfl (by omega) (by omega)) ?_;refine z_f ?_;refine z_l ?_;refine z_n ?_;refine z_m ?_;refine g_m ?_;refine g_f ?_;refine g_l ?_
   first|refine ZAT rfl rfl rfl rfl ?_|refine ZAB rfl rfl rfl rfl rfl (fun _=>ZAE (k:=c.room.toNat) Und.h Tsz.h rfl rfl (by omega) (by omega)) ?_
   refine g_l ?_;refine g_f ?_;refine g_l ?_;refine g_f ?_;refine g_l ?_
   first|refine ZAT rfl rfl rfl rfl ?_|refine ZAB rfl rfl rfl rfl rfl (fun _=>ZAE (k:=c.room.toNat) Und.h Tsz.h rfl rfl (by omega) (by omega)) ?_
   refine g_f ?_;refine g_l ?_
   first|refine ZAT rfl rfl rfl rfl ?_|refine ZAB rfl rfl rfl rfl rfl (fun _=>A_ff (by omega) (ZA4 rfl rfl)) ?_
   refine z_p ?_;refine ZAO (ZAA rfl) nb' ?_;refine zy ?_;exact⟨k+1,(by show s.cans.length-(k+1)<s.cans.length-k;omega),rfl,hE9,hk',hO9',hup2 (fun _=>⟨rfl,by omega⟩),rfl,rfl,rfl,rfl,rfl,rfl,trivial⟩
 have ham':∀j,j<s.cans.length->AmOk s j:=fun j hj=>ham j (by omega);clear ham hO7 hlt hkl;have hV7:=hV6.ext hE7;replace hE7:=hE6.trans hE7;clear hE6 k6 hV6 hW6;refine zy ?_;refine zR (ZJ6 (hr:=-1) hV7 (by omega) (Nat.zero_le _) (fun m hm=>absurd hm List.not_mem_nil)) ?_;rintro _ h8 ⟨hE8,b10,rfl,hn8,hg8⟩;rw[ZTm] at hg8;have hwl:(s.cans.map Cn.room).length=s.cans.length:=List.length_map _
 have hne:=ZPW (aw:=some ⟨b10,0,none⟩) (cw:=s.cans.length) (hV7.ext hE8) hok (w:=s.cans.map Cn.room) (fun j hj=>⟨b10,0,none,rfl,by
  have:=ZBU hg8 (r:=j) hj;rw[List.getD_eq_getElem?_getD,List.getElem?_eq_getElem hj] at this;exact this⟩) (by
  intro r hr;obtain⟨c,hc,rfl⟩:=List.mem_map.1 hr;exact hcs.room c hc) hwl
 rw[hwl] at hne;refine zy ?_;refine zR (hne) ?_;rintro _ h9 ⟨hE9,a9,c9,rfl⟩;replace hE9:=hE7.trans (hE8.trans hE9);generalize hnl:ZMf (amtS s.rooms.length s.cans (s.cans.map Cn.room)) s.rooms s.steps=N;refine zy ?_;refine zC (ZA4 rfl rfl) (fun hgt=>?_) (fun hgt=>?_)
 ·refine zy ?_
  exact ZAC (ZAD rfl ⟨hE9,.no (by decide) fun q=>by have:=q.near;rw[hnl] at this;rw[this] at hgt;exact absurd hgt (by decide)⟩)
 have hN0:N=[]:=List.length_eq_zero_iff.1 (by omega);refine zy ?_;exact ZAC (ZAD rfl ⟨hE9,0,0,0,rfl,fun _=>⟨hlen,he2,he3,ho,hst',ham',by rw[hnl];exact hN0⟩,fun _=>rfl⟩)
theorem ZBK {a lo hi:Int}{b:Bool}(hb:decide (lo<=a/\a<=hi)=b)(h:Heap):Sv Tryz.prog 11 [i64 a,i64 lo,i64 hi] h (RetP fun v h'=>v=.bool b/\h'=h):=by
 rw[<-hb];refine ZAG Tryz.func11 rfl (by rw[Tryz.ntmps11];rfl) ?_;show Wc Tryz.prog ⟨11,15,none⟩ _ _ _ _ _;refine zy ?_;refine zC (ZFD rfl rfl) (fun h1=>?_) (fun h1=>?_);rotate_left
 ·refine zy ?_
  exact ZAC (ZAD rfl ⟨by rw[decide_eq_false (fun q=>h1 q.1)];rfl,rfl⟩)
 ·refine zy ?_
  refine zC (ZEL rfl rfl) (fun h2=>?_) (fun h2=>?_)
  ·refine zy ?_
   exact ZAC (ZAD rfl ⟨by rw[decide_eq_true ⟨h1,h2⟩];rfl,rfl⟩)
  ·refine zy ?_
   exact ZAC (ZAD rfl ⟨by rw[decide_eq_false (fun q=>h2 q.2)];rfl,rfl⟩)
theorem ZG5 {a:Int}{b:Bool}(hb:decide (-300<=a/\a<=600)=b)(h:Heap):Sv Tryz.prog 41 [i64 a] h (RetP fun v h'=>v=.bool b/\h'=h):=by
 refine ZAG Tryz.func41 rfl (by rw[Tryz.ntmps41];rfl) ?_;show Wc Tryz.prog ⟨41,5,none⟩ _ _ _ _ _;refine zy ?_;refine zV (ZBK hb _) ?_;exact ZAC (ZAD rfl ⟨rfl,rfl⟩)
def ErrI (p:Prop)(v:Value):Prop:=∃e:Int,v=i64 e/\(e=0 ↔ p)
theorem ZN4 {h:Heap}{nm:List UInt8}{a:Option Addr}{c:Nat}{l:List (List UInt8)}(hnm:Len nm)(hl:ZLb h a l)(hlen:Len l):Sv Tryz.prog 12 [str nm,.slice a l.length c] h (RetP fun v h'=>ErrI (ZCv nm=true/\nm ∉ l) v/\h'=h):=by
 refine ZAG Tryz.func12 rfl (by rw[Tryz.ntmps12];rfl) ?_;show Wc Tryz.prog ⟨12,21,none⟩ _ _ _ _ _;refine zy ?_
 cases hn:ZCv nm with
 | false =>
  refine zV (hn ▸ ZIx nm h hnm) ?_;exact ZAC (ZAD rfl ⟨⟨6,rfl,fun q=>absurd q (by decide),fun q=>absurd q.1 (by decide)⟩,rfl⟩)
 | true =>
 refine zV (hn ▸ ZIx nm h hnm) ?_;refine ZAN (fun (k:Nat) m ds h'=>ds=[]/\h'=h/\k<=l.length/\nm ∉ l.take k/\AllK m [(0,str nm),(1,.slice a l.length c),(5,i64 (k:Nat))]) (fun k=>l.length-k) 0 ?_ ?_
 ·exact⟨rfl,rfl,Nat.zero_le _,List.not_mem_nil,rfl,rfl,rfl,trivial⟩
 rintro k m ds _ ⟨rfl,rfl,hkl,hno,hall⟩;refine Wc.le ?_ (Le.kn hall);clear hall;refine zy ?_;refine zC (ZAU rfl rfl) (fun hlt=>?_) (fun hlt=>?_);rotate_left
 ·have hkn:k=l.length:=by omega
  rw[hkn,List.take_length] at hno;refine zy ?_;exact ZAC (ZAD rfl ⟨⟨0,rfl,fun _=>⟨rfl,hno⟩,fun _=>rfl⟩,rfl⟩)
 have hk':k<l.length:=by omega
 obtain⟨b,o,oa,rfl,hc⟩:=hl k hk';have htk:l.take (k+1)=l.take k++[l[k]]:=by rw[List.take_add_one,List.getElem?_eq_getElem hk'];rfl
 have hmem:=List.getElem_mem hk';generalize l[k]=y at *;refine zy ?_;refine zD (A_ix Und.h Tsz.h rfl rfl) ?_;refine zC (ZBB rfl rfl) (fun he=>?_) (fun he=>?_)
 ·refine zy ?_
  exact ZAC (ZAD rfl ⟨⟨5,rfl,fun q=>absurd q (by decide),fun q=>absurd (he ▸ hmem) q.2⟩,rfl⟩)
 ·refine zy ?_
  exact⟨k+1,(by show l.length-(k+1)<l.length-k;omega),rfl,rfl,hk',(by rw[htk];intro q;rcases List.mem_append.1 q with q|q;exact hno q;exact he (List.mem_singleton.1 q).symm),rfl,rfl,rfl,trivial⟩
theorem ZL6 {x:Rm}:ZBm x=0 ↔ ((-300<=x.tlo/\x.tlo<=600)/\(-300<=x.thi/\x.thi<=600)/\(0<=x.dlo/\x.dlo<=1000)/\(0<=x.dhi/\x.dhi<=1000)/\(0<=x.most/\x.most<=10000000)/\(0<=x.x/\x.x<=10000)/\(0<=x.y/\x.y<=10000))/\x.tlo<=x.thi/\x.dlo<=x.dhi:=by
 constructor
 ·intro h
  have:=ZFH h;omega
 ·intro h
  have e1:oddS x.tlo x.thi (-300) 600=0:=by unfold oddS;rw[if_neg (by omega),if_neg (by omega)]
  have e2:oddS x.dlo x.dhi 0 1000=0:=by unfold oddS;rw[if_neg (by omega),if_neg (by omega)]
  unfold ZBm;rw[e1,e2,if_neg (by omega),if_neg (by omega)]
theorem ZSE (x:Rm)(h:Heap):Sv Tryz.prog 13 [.agg ⟨ZB3 x⟩] h (RetP fun v h'=>ErrI (ZBm x=0) v/\Ext h h'):=by
 refine ZA5 fun hw=>?_;rw[ZL6];refine ZAG Tryz.func13 rfl (by rw[Tryz.ntmps13];rfl) ?_;show Wc Tryz.prog ⟨13,63,none⟩ _ _ _ _ _;refine zy ?_;refine ZAn rfl rfl rfl fun h1 hE1 hW1 hg1 hn1=>?_;refine zy ?_
 by_cases c1:-300<=x.tlo/\x.tlo<=600
 rotate_left
 ·refine zV (ZG5 (decide_eq_false c1) _) ?_
  exact ZAC (ZAD rfl ⟨⟨7,rfl,fun q=>absurd q (by decide),fun q=>absurd q.1.1 c1⟩,hE1⟩)
 refine zV (ZG5 (decide_eq_true c1) _) ?_
 by_cases c2:-300<=x.thi/\x.thi<=600
 rotate_left
 ·refine zV (ZG5 (decide_eq_false c2) _) ?_
  exact ZAC (ZAD rfl ⟨⟨7,rfl,fun q=>absurd q (by decide),fun q=>absurd q.1.2.1 c2⟩,hE1⟩)
 refine zV (ZG5 (decide_eq_true c2) _) ?_
 by_cases c3:0<=x.dlo/\x.dlo<=1000
 rotate_left
 ·refine zV (ZBK (decide_eq_false c3) _) ?_
  exact ZAC (ZAD rfl ⟨⟨7,rfl,fun q=>absurd q (by decide),fun q=>absurd q.1.2.2.1 c3⟩,hE1⟩)
 refine zV (ZBK (decide_eq_true c3) _) ?_
 by_cases c4:0<=x.dhi/\x.dhi<=1000
 rotate_left
 ·refine zV (ZBK (decide_eq_false c4) _) ?_
  exact ZAC (ZAD rfl ⟨⟨7,rfl,fun q=>absurd q (by decide),fun q=>absurd q.1.2.2.2.1 c4⟩,hE1⟩)
 refine zV (ZBK (decide_eq_true c4) _) ?_
 by_cases c5:0<=x.most/\x.most<=10000000
 rotate_left
 ·refine zV (ZBK (decide_eq_false c5) _) ?_
  exact ZAC (ZAD rfl ⟨⟨7,rfl,fun q=>absurd q (by decide),fun q=>absurd q.1.2.2.2.2.1 c5⟩,hE1⟩)
 refine zV (ZBK (decide_eq_true c5) _) ?_
 by_cases c6:0<=x.x/\x.x<=10000
 rotate_left
 ·refine zV (ZBK (decide_eq_false c6) _) ?_
  exact ZAC (ZAD rfl ⟨⟨7,rfl,fun q=>absurd q (by decide),fun q=>absurd q.1.2.2.2.2.2.1 c6⟩,hE1⟩)
 refine zV (ZBK (decide_eq_true c6) _) ?_
 by_cases c7:0<=x.y/\x.y<=10000
 rotate_left
 ·refine zV (ZBK (decide_eq_false c7) _) ?_
  exact ZAC (ZAD rfl ⟨⟨7,rfl,fun q=>absurd q (by decide),fun q=>absurd q.1.2.2.2.2.2.2 c7⟩,hE1⟩)
 refine zV (ZBK (decide_eq_true c7) _) ?_;refine zC (ZA4 rfl rfl) (fun d1=>?_) (fun d1=>?_)
 ·refine zy ?_
  exact ZAC (ZAD rfl ⟨⟨2,rfl,fun q=>absurd q (by decide),fun q=>absurd q.2.1 (by omega)⟩,hE1⟩)
 refine zy ?_;refine zC (ZA4 rfl rfl) (fun d2=>?_) (fun d2=>?_)
 ·refine zy ?_
  exact ZAC (ZAD rfl ⟨⟨2,rfl,fun q=>absurd q (by decide),fun q=>absurd q.2.2 (by omega)⟩,hE1⟩)
 refine zy ?_;exact ZAC (ZAD rfl ⟨⟨0,rfl,fun _=>⟨⟨c1,c2,c3,c4,c5,c6,c7⟩,by omega,by omega⟩,fun _=>rfl⟩,hE1⟩)
theorem ZQL {h:Heap}{s:Si}{d:SAd}(hS:SiAt h s d)(hc:s.cans.length<=30):Sv Tryz.prog 14 [.agg ⟨ZFh s d⟩] h (RetP fun v h'=>Ext h h'/\∃a,v=.slice a s.cans.length s.cans.length/\ZAi i64 h' a (s.cans.map Cn.room)/\(0<s.cans.length->∃b sp,a=some ⟨b,0,sp⟩/\(sp=none\/sp=some 1))):=by
 refine ZA5 fun hw=>?_;obtain⟨ar,cr,ac,cc,ast,cst⟩:=d;refine ZAG Tryz.func14 rfl (by rw[Tryz.ntmps14];rfl) ?_;show Wc Tryz.prog ⟨14,22,none⟩ _ _ _ _ _;refine zy ?_;refine ZAn rfl rfl rfl fun h1 hE1 hW1 hg1 hn1=>?_;generalize h.nx=b1 at hg1 ⊢;refine zy ?_;refine ZAN (fun (st:Nat×Value) m ds h'=>ds=[]/\Ext h1 h'/\st.1<=s.cans.length/\Own h1 h' [slI h1 st.2 3 1 (((s.cans.map Cn.room).take st.1).map i64) st.1]/\AllK m [(1,.pointer (some ⟨b1,0,none⟩)),(3,st.2),(4,i64 (st.1:Nat))]) (fun st=>s.cans.length-st.1) (0,.slice none 0 0) ?_ ?_
 ·exact⟨rfl,Ext.refl _,Nat.zero_le _,(Own.nil h1 h1).nilSl 3 1,rfl,rfl,rfl,trivial⟩
 rintro⟨k,v⟩ m ds h2 ⟨rfl,hE2,hkl,hO2,hall⟩;refine Wc.le (ZBR fun hW2=>?_) (Le.kn hall);clear hall;simp only at hkl hO2 ⊢;have hg2:=hE2.get hg1;refine zy ?_;refine zC (ZAU rfl rfl) (fun hlt=>?_) (fun hlt=>?_);rotate_left
 ·have hkn:k=s.cans.length:=by omega
  subst hkn;rw[show (s.cans.map Cn.room).take s.cans.length=s.cans.map Cn.room from List.take_of_length_le (by rw[List.length_map];omega)] at hO2;have hF:=(show ZAF _ _ _ _ _ _ _ from hO2.p1);obtain⟨a,rfl,-,hl⟩:=ZAF.list hF;rw[show (s.cans.map Cn.room).length=s.cans.length from List.length_map _] at hF ⊢
  have hsp:0<s.cans.length->∃b sp,a=some ⟨b,0,sp⟩/\(sp=none\/sp=some 1):=fun hp=>by
   rcases hF with ⟨_,_,e⟩|⟨b,sp,op,e,_,_,_,e2⟩
   ·omega
   ·cases e;exact⟨b,sp,rfl,e2⟩
  refine zy ?_;exact ZAC (ZAD rfl ⟨hE1.trans hE2,a,rfl,hl,hsp⟩)
 have hk':k<s.cans.length:=by omega
 obtain⟨b,o,oa,eac,row,hrow,hxr⟩:=hS.c k hk';have htk:((s.cans.map Cn.room).take (k+1)).map i64=((s.cans.map Cn.room).take k).map i64++[i64 s.cans[k].room]:=by
  rw[List.take_add_one,List.map_append,List.getElem?_map,List.getElem?_eq_getElem hk'];rfl
 generalize s.cans[k]=c at *;have hx':row=ZCz c:=hxr;subst hx';replace eac:ac=some ⟨b,o,oa⟩:=eac;subst eac;have hrow2:=(hE1.trans hE2).row hrow;have hcl:ZAS h2 b (o+k*4+3)=some (i64 c.room):=ZAK (k:=3) hrow2 rfl;clear hrow2 hrow;refine zy ?_;refine zD (A_ix Und.h Tsz.h rfl rfl) ?_;refine ZBg (cs:=[i64 c.room]) rfl rfl Und.h Tsz.h Zr.h rfl rfl rfl rfl rfl fun h3 hE3 hW3 hg3 hn3=>?_;refine zy ?_;refine ZAo (k:=1) (n:=k) (l:=[i64 c.room]) hW1 (hE2.trans hE3) rfl rfl rfl rfl rfl Und.h inferInstance rfl rfl (hO2.ext hE3) (ZAs Und.h (by intro k;simp) (ZAP hg3 rfl)) rfl rfl (by omega) (by omega) fun v3 h4 hW4 hO4 hE4=>?_
 rw[<-htk] at hO4;refine zy ?_;exact⟨(k+1,v3),(by show s.cans.length-(k+1)<s.cans.length-k;omega),rfl,hE4,hk',hO4,rfl,rfl,rfl,trivial⟩
theorem ZI2 {h:Heap}{s:Si}{d:SAd}{w:List Int}{aw:Option Addr}{cw:Nat}{r:Int}(hS:SiAt h s d)(hc:Cans s.rooms.length s.cans)(hW:ZAi i64 h aw w)(hl:w.length<=s.cans.length):Sv Tryz.prog 15 [.agg ⟨ZFh s d⟩,.slice aw w.length cw,i64 r] h (RetP fun v h'=>v=i64 (amtR s.cans w r w.length)/\Ext h h'):=by
 refine ZA5 fun hw=>?_;obtain⟨ar,cr,ac,cc,ast,cst⟩:=d;have hcl:=hc.len;refine ZAG Tryz.func15 rfl (by rw[Tryz.ntmps15];rfl) ?_;show Wc Tryz.prog ⟨15,39,none⟩ _ _ _ _ _;refine zy ?_;refine ZAn rfl rfl rfl fun h1 hE1 hW1 hg1 hn1=>?_;generalize h.nx=b1 at hg1 ⊢;refine zy ?_;refine ZAN (fun (k:Nat) m ds h'=>ds=[]/\h'=h1/\k<=w.length/\AllK m [(1,.slice aw w.length cw),(2,i64 r),(3,.pointer (some ⟨b1,0,none⟩)),(7,i64 (amtR s.cans w r k)),(8,i64 (k:Nat))]) (fun k=>w.length-k) 0 ?_ ?_
 ·exact⟨rfl,rfl,Nat.zero_le _,rfl,rfl,rfl,rfl,rfl,trivial⟩
 rintro k m ds h1 ⟨rfl,rfl,hkl,hall⟩;refine Wc.le ?_ (Le.kn hall);clear hall;refine zy ?_;refine zC (ZAU rfl rfl) (fun hlt=>?_) (fun hlt=>?_);rotate_left
 ·have hkn:k=w.length:=by omega
  subst hkn;refine zy ?_;exact ZAC (ZAD rfl ⟨rfl,hE1⟩)
 have hk':k<w.length:=by omega
 obtain⟨bw,ow,oaw,rfl,hcw⟩:=hW k hk';obtain⟨b,o,oa,eac,row,hrow,hxr⟩:=hS.c k (by omega);have hbd:=ZHu hc.frames w r k (by omega);have hst:amtR s.cans w r (k+1)=amtR s.cans w r k+inRm (s.cans.getD k default) (w.getD k 0) r:=rfl;have hcm:=hc.frames _ (List.getElem_mem (show k<s.cans.length by omega));have egw:w.getD k 0=w[k]:=by rw[List.getD_eq_getElem?_getD,List.getElem?_eq_getElem hk'];rfl
 rw[ZAW (show k<s.cans.length by omega),egw] at hst;unfold inRm at hst;generalize w[k]=q at *;generalize s.cans[k]'(by omega)=c at *;generalize amtR s.cans w r k=z at *;have hx':row=ZCz c:=hxr;subst hx';replace eac:ac=some ⟨b,o,oa⟩:=eac;subst eac;have hcw1:=hE1.cell hcw;have hrow1:=hE1.row hrow;have d1:ZAS h1 b (o+k*4+1)=some (i64 c.base):=ZAK (k:=1) hrow1 rfl;have d2:ZAS h1 b (o+k*4+2)=some (i64 c.frames):=ZAK (k:=2) hrow1 rfl;clear hrow1 hrow;refine zy ?_;refine zD (A_ix Und.h Tsz.h rfl rfl) ?_
 by_cases c1:q=r
 rotate_left
 ·refine zE (A_ff c1 (ZAg rfl rfl)) ?_
  rw[if_neg (fun z=>c1 z.1),Int.add_zero] at hst;refine zy ?_;exact⟨k+1,(by show w.length-(k+1)<w.length-k;omega),rfl,rfl,hk',rfl,rfl,rfl,by rw[hst];rfl,rfl,trivial⟩
 refine zD (A_tt c1 (ZAg rfl rfl)) ?_;refine zD (A_ix (k:=k) Und.h Tsz.h rfl rfl (by omega)) ?_
 by_cases c2:c.base=1
 rotate_left
 ·refine zE (A_ff c2 (ZAg rfl rfl)) ?_
  rw[if_neg (fun z=>c2 z.2),Int.add_zero] at hst;refine zy ?_;exact⟨k+1,(by show w.length-(k+1)<w.length-k;omega),rfl,rfl,hk',rfl,rfl,rfl,by rw[hst];rfl,rfl,trivial⟩
 refine zE (A_tt c2 (ZAg rfl rfl)) ?_;rw[if_pos ⟨c1,c2⟩] at hst;refine zy ?_;refine zD (A_ix (k:=k) Und.h Tsz.h rfl rfl (by omega)) ?_;exact⟨k+1,(by show w.length-(k+1)<w.length-k;omega),rfl,rfl,hk',rfl,rfl,rfl,by rw[hst];rfl,rfl,trivial⟩
theorem ZI7 {h:Heap}{s:Si}{d:SAd}{a:Int}(hS:SiAt h s d)(hok:s.Ok)(ha:0<=a):Sv Tryz.prog 42 [.agg ⟨ZFh s d⟩,i64 a] h (RetP fun v h'=>v=i64 (ZBo s.steps a)/\Ext h h'):=by
 refine ZA5 fun hw=>?_;obtain⟨ar,cr,ac,cc,ast,cst⟩:=d;have hsl:=hok.slen;refine ZAG Tryz.func42 rfl (by rw[Tryz.ntmps42];rfl) ?_;show Wc Tryz.prog ⟨42,33,none⟩ _ _ _ _ _;refine zy ?_;refine ZAn rfl rfl rfl fun h1 hE1 hW1 hg1 hn1=>?_;generalize h.nx=b1 at hg1 ⊢;refine zy ?_;refine ZAN (fun (k:Nat) m ds h'=>ds=[]/\h'=h1/\k<=s.steps.length/\AllK m [(1,i64 a),(2,.pointer (some ⟨b1,0,none⟩)),(5,i64 (ZBo (s.steps.take k) a)),(6,i64 (k:Nat))]) (fun k=>s.steps.length-k) 0 ?_ ?_
 ·exact⟨rfl,rfl,Nat.zero_le _,rfl,rfl,rfl,rfl,trivial⟩
 rintro k m ds h1 ⟨rfl,rfl,hkl,hall⟩;refine Wc.le ?_ (Le.kn hall);clear hall;refine zy ?_;refine zC (ZAU rfl rfl) (fun hlt=>?_) (fun hlt=>?_);rotate_left
 ·have hkn:k=s.steps.length:=by omega
  rw[hkn,List.take_length];refine zy ?_;exact ZAC (ZAD rfl ⟨rfl,hE1⟩)
 have hk':k<s.steps.length:=by omega
 refine zy ?_;refine zC (ZA4 rfl rfl) (fun ha0=>?_) (fun ha0=>?_);rotate_left
 ·have ha1:a=0:=by omega
  subst ha1;have e1:=ZK9 (l:=s.steps) (fun x hx=>(hok.steps x hx).1.1);have e2:=ZK9 (l:=s.steps.take k) (fun x hx=>(hok.steps x (List.mem_of_mem_take hx)).1.1);rw[e2];refine zy ?_;exact ZAC (ZAD rfl ⟨by rw[e1];rfl,hE1⟩)
 obtain⟨b,o,oa,eas,row,hrow,hxr⟩:=hS.s k hk';have htk:s.steps.take (k+1)=s.steps.take k++[s.steps[k]]:=by rw[List.take_add_one,List.getElem?_eq_getElem hk'];rfl
 have hst:=ZLD (s.steps.take k) s.steps[k] a;rw[<-htk] at hst;generalize s.steps[k]=x at *;generalize ZBo (s.steps.take k) a=q at *;have hx':row=rowP x:=hxr;subst hx';replace eas:ast=some ⟨b,o,oa⟩:=eas;subst eas;have hrow1:=hE1.row hrow;have d1:ZAS h1 b (o+k*2+0)=some (i64 x.1):=ZAK (k:=0) hrow1 rfl;have d2:ZAS h1 b (o+k*2+1)=some (i64 x.2):=ZAK (k:=1) hrow1 rfl;clear hrow1 hrow;refine zy ?_;refine zD (A_ix Und.h Tsz.h rfl rfl) ?_
 by_cases c1:x.1<a
 rotate_left
 ·refine zE (A_ff c1 (ZAU rfl rfl)) ?_
  rw[if_neg c1] at hst;refine zy ?_;exact⟨k+1,(by show s.steps.length-(k+1)<s.steps.length-k;omega),rfl,rfl,hk',rfl,rfl,by rw[hst];rfl,rfl,trivial⟩
 refine zE (A_tt c1 (ZAU rfl rfl)) ?_;rw[if_pos c1] at hst;refine zy ?_;refine zD (A_ix Und.h Tsz.h rfl rfl) ?_;exact⟨k+1,(by show s.steps.length-(k+1)<s.steps.length-k;omega),rfl,rfl,hk',rfl,rfl,by rw[hst];rfl,rfl,trivial⟩
abbrev ZU7:List Nat:=[0,1,2,3,4,5,6]
abbrev rmT:TypeId:=43
abbrev zRm:List Value:=[str [],i64 0,i64 0,i64 0,i64 0,.bool false,.bool false,i64 0,i64 0,i64 0]
theorem ZUX (x y:Bool){a b:Int}(p q:Bool):((decide (0<a) && (decide (0<b) || q)) || (decide (0<b) && (decide (0<a) || p)))=if 0<a then (if 0<b then true else q) else (if 0<b then p else false):=by
 by_cases h1:0<a <;> by_cases h2:0<b <;> cases p <;> cases q <;> simp[h1,h2]
set_option maxHeartbeats 4000000 in
theorem ZSl {h:Heap}{s:Si}{d:SAd}{w:List Int}{aw:Option Addr}{cw:Nat}(hS:SiAt h s d)(hok:s.Ok)(hW:ZAi i64 h aw w)(hw:InR s.rooms.length w)(hl:w.length=s.cans.length) :
  Sv Tryz.prog 16 [.agg ⟨ZFh s d⟩,.slice aw w.length cw] h (RetP fun v h'=>Ext h h'/\∃a c,v=.slice a (ZMf (amtS s.rooms.length s.cans w) s.rooms s.steps).length c):=by
 refine ZA5 fun hwf=>?_;obtain⟨ar,cr,ac,cc,ast,cst⟩:=d;have hrl:=hok.rlen
 have hA:∀{i:Nat},i<s.rooms.length->amtR s.cans w i w.length=(amtS s.rooms.length s.cans w).getD i 0:=fun hi=>by
  rw[<-ZJw hw hi w.length (Nat.le_refl _),hl];rfl
 have hAbd:=fun {r:Int}=>ZHu hok.cans.frames w r w.length (by omega);generalize amtS s.rooms.length s.cans w=A at *;refine ZAG Tryz.func16 rfl (by rw[Tryz.ntmps16];rfl) ?_;show Wc Tryz.prog ⟨16,112,none⟩ _ _ _ _ _;refine zy ?_;refine ZAn rfl rfl rfl fun h3 hE3 hW3 hg3 hn3=>?_;generalize h.nx=b2 at hg3 ⊢;have hS3:=hS.ext hE3;have hW3':ZAi i64 h3 aw w:=ZAi.ext hW hE3;refine zy ?_;refine ZAN (fun (st:Nat×Value) m ds h'=>ds=[]/\Ext h3 h'/\st.1<=s.rooms.length/\Own h3 h' [slI h3 st.2 nrT 2 (((prsN s.rooms.length st.1).filter (ZBD A s.rooms s.steps)).flatMap ZDb) ((prsN s.rooms.length st.1).filter (ZBD A s.rooms s.steps)).length]/\AllK m [(1,.slice aw w.length cw),(2,.pointer (some ⟨b2,0,none⟩)),(5,st.2),(6,i64 (st.1:Nat))]) (fun st=>s.rooms.length-st.1) (0,.slice none 0 0) ?_ ?_
 ·exact⟨rfl,Ext.refl _,Nat.zero_le _,(Own.nil h3 h3).nilSl nrT 2,rfl,rfl,rfl,rfl,trivial⟩
 rintro⟨i,v⟩ m ds h4 ⟨rfl,hE4,hi,hO4,hall⟩;refine Wc.le (ZBR fun hW4=>?_) (Le.kn hall);clear hall;simp only at hi hO4 ⊢;have hg4:=hE4.get hg3;refine zy ?_;refine zC (ZAU rfl rfl) (fun hlt=>?_) (fun hlt=>?_);rotate_left
 ·have hin:i=s.rooms.length:=by omega
  subst hin;obtain⟨a1,c1,rfl⟩:=ZQV hO4;refine zy ?_;exact ZAC (ZAD rfl ⟨hE3.trans hE4,a1,c1,rfl⟩)
 have hi':i<s.rooms.length:=by omega
 obtain⟨b,o,oa,ear,row,hrow,hxr⟩:=hS3.r i hi';have egp:s.rooms.getD i default=s.rooms[i]:=ZAW hi';have hpm:=hok.rm _ (List.getElem_mem hi');generalize hpp:s.rooms[i]=p at *;have hx':row=ZB3 p:=hxr;subst hx';replace ear:ar=some ⟨b,o,oa⟩:=ear;subst ear;refine zy ?_;refine ZAN (fun (st:Nat×Value) m ds h'=>ds=[]/\Ext h3 h'/\i+1+st.1<=s.rooms.length/\Own h3 h' [slI h3 st.2 nrT 2 (((prsN s.rooms.length i++prsI i st.1).filter (ZBD A s.rooms s.steps)).flatMap ZDb) ((prsN s.rooms.length i++prsI i st.1).filter (ZBD A s.rooms s.steps)).length]/\AllK m [(1,.slice aw w.length cw),(2,.pointer (some ⟨b2,0,none⟩)),(5,st.2),(6,i64 (i:Nat)),(7,i64 ((i:Nat)+1+(st.1:Nat)))]) (fun st=>s.rooms.length-st.1) (0,v) ?_ ?_
 ·refine⟨rfl,hE4,by omega,?_,rfl,rfl,rfl,rfl,by simp;rfl,trivial⟩
  have e0:prsI i 0=[]:=rfl;simp only[e0,List.append_nil];exact hO4
 clear hO4 hE4 hg4;rintro⟨j,v2⟩ m ds h6 ⟨rfl,hE6,hj,hO6,hall⟩;refine Wc.le (ZBR fun hW6=>?_) (Le.kn hall);clear hall;simp only at hj hO6 ⊢;have hg6:=hE6.get hg3;refine zy ?_;refine zC (ZAU rfl rfl) (fun hjl=>?_) (fun hjl=>?_);rotate_left
 ·have hjn:j=s.rooms.length-(i+1):=by omega
  subst hjn;refine zy ?_;exact⟨(i+1,v2),(by show s.rooms.length-(i+1)<s.rooms.length-i;omega),rfl,hE6,hi',hO6,rfl,rfl,rfl,rfl,trivial⟩
 have hj':i+1+j<s.rooms.length:=by omega
 obtain⟨b',o',oa',ear',row',hrow',hxr'⟩:=hS3.r (i+1+j) hj';have egq:s.rooms.getD (i+1+j) default=s.rooms[i+1+j]:=ZAW hj';have hqm:=hok.rm _ (List.getElem_mem hj');generalize hqq:s.rooms[i+1+j]=q at *;have hx':row'=ZB3 q:=hxr';subst hx';cases (show some _=some _ from ear');have hrowp:=hE6.row hrow;have hrowq:=hE6.row hrow';obtain⟨jj,hjj⟩:∃jj,jj=i+1+j:=⟨_,rfl⟩;have hjz:((i:Nat):Int)+1+((j:Nat):Int)=((jj:Nat):Int):=by omega
 have hps:=ZKd i j;rw[<-hjj] at hrowq egq hj' hps;rw[hjz];have hEa:=Ext.add hW6 (.cells zRm rmT false);have hEb:=hEa.trans (Ext.add (hW6.add _) (.cells zRm rmT false));have ga:((h6.add (.cells zRm rmT false)).add (.cells zRm rmT false)).get h6.nx=some (.cells zRm rmT false):=(Ext.add (hW6.add _) _).get Heap.get_add_same;have gb:((h6.add (.cells zRm rmT false)).add (.cells zRm rmT false)).get (h6.nx+1)=some (.cells zRm rmT false):=Heap.get_add_same;refine zy ?_;refine ZAL hmix [0,1,0,7,15,0,32,0,224,480,0,0,3103,8191] [0,1,2,3,4,5,6,7,8,9,10,11] (some 12) [([],(some 13)),([],none)] (by kernel_rfl) (by kernel_rfl) ?_
 refine z_f ?_;refine z_l ?_;refine z_m ?_;refine ZAB rfl rfl rfl rfl rfl (fun _=>ZAE (k:=i) Und.h Tsz.h rfl rfl rfl hi') ?_;refine z_r ?_;refine z_f ?_;refine z_l ?_;refine z_m ?_;refine ZAB rfl rfl rfl rfl rfl (fun _=>ZAE (k:=jj) Und.h Tsz.h rfl rfl rfl hj') ?_;refine z_r ?_;refine ZDS (nk:=.ptr) rfl rfl rfl rfl rfl (fun _ _ _=>ZHR Zr.h) ?_;refine ZDS (nk:=.ptr) rfl rfl rfl rfl rfl (fun _ _ _=>ZHR Zr.h) ?_;refine ZAI (h1:=(Heap.add (Heap.add h6 _) _)) [0,1,2,3,4,10,11] (by kernel_rfl) rfl (ZAA rfl) rfl rfl rfl (ZAu (ZA1 rfl rfl Tsz.h rfl rfl ga rfl rfl rfl (fun h7 hU7 hW7=>?_)));have hE7:=hU7.ext hEb hW6 (Nat.le_refl _)
 have gb7:=hU7.get (show h6.nx+1≠h6.nx by omega) gb;have hg7:=(hE6.trans hE7).get hg3;have hrq7:=hE7.row hrowq;refine ZAI (h1:=h7) [0,1,2,3,4,5,6,7,8,9,10,11,12] (by kernel_rfl) rfl (by refine t_r 9 ?_;refine ZBZ (i:=8) rfl rfl rfl rfl rfl (fun _=>ZAE (k:=jj) Und.h Tsz.h rfl rfl rfl hj') rfl ?_;refine t_m 7 ?_;refine t_l 6 ?_;refine t_f 5 ?_;exact ZAA rfl) rfl rfl rfl (ZAu (ZA1 rfl rfl Tsz.h rfl rfl gb7 rfl rfl rfl (fun h8 hU8 hw8=>?_)));have hE68:=hU8.ext hE7 hW6 (Nat.le_succ _);refine ZAO (h1:=h8) (ZAA rfl) rfl ?_;have gp:=hU8.get (show h6.nx≠h6.nx+1 by omega) hU7.at';have gq:=hU8.at';have hE8:=hE6.trans hE68
 have hO8:=hO6.ext hE68;have hg8:=hE8.get hg3;clear hU7 hU8 hW7 gb7 hE7 ga gb hEa hEb hO6 hg6 hrowp hrowq hE68;clear hg7 hrq7;generalize h6.nx=b8 at gp gq ⊢;have hWA:=ZAi.ext hW3' hE8
 have ham:∀{k:Heap} {r:Nat},Ext h3 k->r<s.rooms.length->Sv Tryz.prog 15 [.agg ⟨ZFh s ⟨some ⟨b,o,oa⟩,cr,ac,cc,ast,cst⟩⟩,.slice aw w.length cw,i64 (r:Nat)] k (RetP fun v h'=>v=i64 (A.getD r 0)/\Ext k h'):=fun hE hr=>by
  rw[<-hA hr];exact ZI2 (hS3.ext hE) hok.cans (ZAi.ext hW3' hE) (by omega)
 have ab1:=hAbd (r:=(i:Nat));have ab2:=hAbd (r:=(jj:Nat));rw[hA hi'] at ab1;rw[hA hj'] at ab2;have hnpe:ZBD A s.rooms s.steps (i,jj)=((ZE5 A s.rooms i jj || ZE5 A s.rooms jj i) && decide (farS p q<max (ZBo s.steps (A.getD i 0)) (ZBo s.steps (A.getD jj 0))*max (ZBo s.steps (A.getD i 0)) (ZBo s.steps (A.getD jj 0)))):=by
  unfold ZBD;simp only;rw[egp,egq]
 have hrk:(ZE5 A s.rooms i jj || ZE5 A s.rooms jj i)=((decide (0<A.getD i 0) && (decide (0<A.getD jj 0) || q.people)) || (decide (0<A.getD jj 0) && (decide (0<A.getD i 0) || p.people))):=by
  unfold ZE5;rw[egp,egq]
 have hflen:((prsN s.rooms.length i++prsI i j).filter (ZBD A s.rooms s.steps)).length<=200:=by
  refine Nat.le_trans (List.length_filter_le _ _) ?_;have h1:=ZJU s.rooms.length i (by omega);have h2:i*s.rooms.length<=12*12:=Nat.mul_le_mul (by omega) (by omega);unfold prsI;rw[List.length_append,List.length_map,List.length_range'];omega
 have hj1:((jj:Nat):Int)+1=(i:Nat)+1+((j+1:Nat):Int):=by omega
 have hfin:∀{vx h' I},ZBD A s.rooms s.steps (i,jj)=false->Own h3 h' (slI h3 vx nrT 2 (((prsN s.rooms.length i++prsI i j).filter (ZBD A s.rooms s.steps)).flatMap ZDb) ((prsN s.rooms.length i++prsI i j).filter (ZBD A s.rooms s.steps)).length::I)->Own h3 h' (slI h3 vx nrT 2 (((prsN s.rooms.length i++prsI i (j+1)).filter (ZBD A s.rooms s.steps)).flatMap ZDb) ((prsN s.rooms.length i++prsI i (j+1)).filter (ZBD A s.rooms s.steps)).length::I):=fun hnp hO=>by
  rw[hps,<-List.append_assoc,ZDn,if_neg (by rw[hnp];decide)];exact hO
 have hfin2:∀{vx h' I},ZBD A s.rooms s.steps (i,jj)=true->Own h3 h' (slI h3 vx nrT 2 (((prsN s.rooms.length i++prsI i j).filter (ZBD A s.rooms s.steps)).flatMap ZDb++ZDb (i,jj)) (((prsN s.rooms.length i++prsI i j).filter (ZBD A s.rooms s.steps)).length+1)::I)->Own h3 h' (slI h3 vx nrT 2 (((prsN s.rooms.length i++prsI i (j+1)).filter (ZBD A s.rooms s.steps)).flatMap ZDb) ((prsN s.rooms.length i++prsI i (j+1)).filter (ZBD A s.rooms s.steps)).length::I):=fun hnp hO=>by
  rw[hps,<-List.append_assoc,ZDn,if_pos hnp,List.flatMap_append,List.flatMap_singleton,List.length_append];exact hO
 have ham1:=fun {k:Heap} (hE:Ext h3 k)=>ham hE hi';have ham2:=fun {k:Heap} (hE:Ext h3 k)=>ham hE hj';clear hps egp egq ham;generalize A.getD i 0=a1 at *;generalize A.getD jj 0=a2 at *;refine zy ?_;refine ZAL hmix [0,0,0,7,0,0,0,127,255,511] [0,1,2,4,5,6] (some 3) [([],(some 7)),([],(some 8)),([],(some 9)),([],none)] (by kernel_rfl) (by kernel_rfl) ?_;refine z_r ?_;refine z_m ?_;refine z_m ?_;refine z_r ?_;refine z_m ?_;refine z_m ?_;refine ZAI [0,1,2] (by kernel_rfl) rfl (ZAA rfl) rfl nb rfl (ZAu (ZBJ rfl rfl rfl rfl rfl Bod.h (ham1 hE8) (fun v9 h9 hv hw9=>?_)));obtain⟨rfl,hE9⟩:=hv;have hg9:=hE9.get hg8
 refine ZAI ZU7 (by kernel_rfl) rfl (by refine t_m 6 ?_;refine t_m 5 ?_;refine t_r 4 ?_;exact ZAA rfl) rfl nb rfl (ZAu (ZBJ rfl rfl rfl rfl rfl Bod.h (ham2 (hE8.trans hE9)) (fun v10 h10 hv hw10=>?_)));obtain⟨rfl,hE10⟩:=hv;refine ZAI [0,1,2,3,4,5,6,7] (by kernel_rfl) rfl (ZAA rfl) rfl nb rfl (ZCU rfl rfl (ZAj rfl) ?_);refine ZAI [0,1,2,3,4,5,6,7,8] (by kernel_rfl) rfl (ZAA rfl) rfl nb rfl (ZCU rfl rfl (ZAj rfl) ?_);refine ZAO (ZAA rfl) nb' ?_;have hE810:=hE9.trans hE10;have hga:=hE810.get gp;have hgb:=hE810.get gq;have hgc:=hE810.get hg8;have hOa:=hO8.ext hE810;have hEc:=hE8.trans hE810;clear hE9 hE10 hg9 hg8 gp gq hO8 hE8 hE810 hWA ham1 ham2
 generalize hR:(ZE5 A s.rooms i jj || ZE5 A s.rooms jj i)=R at *
 show Wc _ _ _ _ _ _ _
 repeat refine ZED ?_
 refine Wc.mono (Q:=fun z m' ds' h'=>z=.normal/\ds'=[]/\h'=h10/\AllK m' [(1,.slice aw w.length cw),(2,.pointer (some ⟨b2,0,none⟩)),(5,v2),(6,i64 (i:Nat)),(7,i64 (jj:Nat)),(8,.pointer (some ⟨b8,0,none⟩)),(9,.pointer (some ⟨b8+1,0,none⟩)),(10,i64 a1),(11,i64 a2),(70,.bool (!R))]) ?_ ?_
 ·rw[hrk,ZUX true true]
  clear hrk hR hnpe hfin hfin2;refine zy ?_;refine zC (ZA4 rfl rfl) (fun g1=>?_) (fun g1=>?_)
  ·rw[if_pos g1]
   refine zy ?_;refine zC (ZA4 rfl rfl) (fun g2=>?_) (fun g2=>?_)
   ·rw[if_pos g2]
    refine zy ?_;exact⟨rfl,rfl,rfl,rfl,rfl,rfl,rfl,rfl,rfl,rfl,rfl,rfl,rfl,trivial⟩
   ·rw[if_neg g2]
    cases hq:q.people with
    | true =>
     rw[hq] at hgb;refine zy ?_;exact⟨rfl,rfl,rfl,rfl,rfl,rfl,rfl,rfl,rfl,rfl,rfl,rfl,rfl,trivial⟩
    | false =>
     rw[hq] at hgb;refine zy ?_;refine zD (A_ff g2 (ZA4 rfl rfl)) ?_;exact⟨rfl,rfl,rfl,rfl,rfl,rfl,rfl,rfl,rfl,rfl,rfl,rfl,rfl,trivial⟩
  ·rw[if_neg g1]
   refine zy ?_;refine zC (ZA4 rfl rfl) (fun g2=>?_) (fun g2=>?_)
   ·rw[if_pos g2]
    refine zy ?_;refine zE (A_ff g1 (ZA4 rfl rfl)) ?_
    cases hp:p.people with
    | true =>
     rw[hp] at hga;refine zy ?_;exact⟨rfl,rfl,rfl,rfl,rfl,rfl,rfl,rfl,rfl,rfl,rfl,rfl,rfl,trivial⟩
    | false =>
     rw[hp] at hga;refine zy ?_;exact⟨rfl,rfl,rfl,rfl,rfl,rfl,rfl,rfl,rfl,rfl,rfl,rfl,rfl,trivial⟩
   ·rw[if_neg g2]
    refine zy ?_;exact⟨rfl,rfl,rfl,rfl,rfl,rfl,rfl,rfl,rfl,rfl,rfl,rfl,rfl,trivial⟩
 rintro _ m1 _ ha ⟨rfl,rfl,rfl,hall⟩
 show Wc _ _ _ _ _ _ _
 refine Wc.le (ZBR fun hW10=>?_) (Le.kn hall);clear hall
 cases R with
 | false =>
  refine zy ?_;exact⟨(j+1,v2),(by show s.rooms.length-(j+1)<s.rooms.length-j;omega),rfl,hEc,(by show i+1+(j+1)<=s.rooms.length;omega),hfin (by rw[hnpe];rfl) hOa,rfl,rfl,rfl,rfl,congrArg (fun z=>some (i64 z)) hj1,trivial⟩
 | true =>
 have hkb1:=ZJ4 (fun x hx=>(hok.steps x hx).2) a1;have hkb2:=ZJ4 (fun x hx=>(hok.steps x hx).2) a2;have hdx:=ZOw (x:=p.x-q.x) (n:=10000) (by omega) (by omega);have hdy:=ZOw (x:=p.y-q.y) (n:=10000) (by omega) (by omega);have hM:=ZOw (x:=max (ZBo s.steps a1) (ZBo s.steps a2)) (n:=10000) (by omega) (by omega);have hfar:farS p q=(p.x-q.x)*(p.x-q.x)+(p.y-q.y)*(p.y-q.y):=rfl;rw[hfar] at hnpe;refine zy ?_;refine ZAL hmix [0,0,3,0,0,31,63,127] [0,1,3,4] (some 2) [([],(some 5)),([6],(some 7)),([],none)] (by kernel_rfl) (by kernel_rfl) ?_;refine z_r ?_;refine z_m ?_;refine z_r ?_;refine z_m ?_;refine ZAI [0,1] (by kernel_rfl) rfl (ZAA rfl) rfl nb rfl (ZAu (ZBJ rfl rfl rfl rfl rfl Bod.h (ZI7 (a:=a1) (hS3.ext hEc) hok ab1.1) (fun v11 h11 hv hw11=>?_)))
 obtain⟨rfl,hE11⟩:=hv;have hg11:=hE11.get hgc;refine ZAI [0,1,2,3,4] (by kernel_rfl) rfl (by refine t_m 4 ?_;refine t_r 3 ?_;exact ZAA rfl) rfl nb rfl (ZAu (ZBJ rfl rfl rfl rfl rfl Bod.h (ZI7 (a:=a2) (hS3.ext (hEc.trans hE11)) hok ab2.1) (fun v12 h12 hv hw12=>?_)));obtain⟨rfl,hE12⟩:=hv;generalize ZBo s.steps a1=K1 at *;generalize ZBo s.steps a2=K2 at *;refine z_x ?_;refine ZAI ZU7 (by kernel_rfl) rfl (ZAA rfl) rfl nb rfl (ZCU rfl rfl (ZAj rfl) ?_);refine ZAO (ZAA rfl) nb' ?_;have hEn:=hE11.trans hE12;have hgan:=hEn.get hga;have hgbn:=hEn.get hgb;have hOn:=hOa.ext hEn;have hEcn:=hEc.trans hEn;clear hga hgb hgc hg11 hE11 hE12 hOa hEc
 refine zy ?_;refine zD (ZF5 rfl rfl (by omega) (by omega)) ?_;refine zE (ZF5 rfl rfl (by omega) (by omega)) ?_;generalize (p.x-q.x)*(p.x-q.x)=dx at *;generalize (p.y-q.y)*(p.y-q.y)=dy at *;refine zy ?_;refine zD (ZF5 rfl rfl (by omega) (by omega)) ?_
 by_cases hf:dx+dy<max K1 K2*max K1 K2
 ·refine zE (A_tt hf (ZAU rfl rfl)) ?_
  have hnp:ZBD A s.rooms s.steps (i,jj)=true:=by rw[hnpe,decide_eq_true hf];rfl
  refine zy ?_;refine ZBg (cs:=ZDb (i,jj)) rfl rfl Und.h Tsz.h Zr.h rfl rfl rfl rfl (ZQs _ _) fun h13 hE13 hW13 hg13 hn13=>?_;refine zy ?_;refine ZAo (k:=1) (n:=((prsN s.rooms.length i++prsI i j).filter (ZBD A s.rooms s.steps)).length) (l:=ZDb (i,jj)) hW3 (hEcn.trans hE13) rfl rfl rfl rfl rfl Und.h inferInstance rfl rfl (hOn.ext hE13) (ZAs Und.h (by intro k;simp) (ZAP hg13 rfl)) rfl rfl (by omega) (by omega) fun v3 h14 hW14 hO14 hE14=>?_;refine zy ?_;exact⟨(j+1,v3),(by show s.rooms.length-(j+1)<s.rooms.length-j;omega),rfl,hE14,(by show i+1+(j+1)<=s.rooms.length;omega),hfin2 hnp hO14,rfl,rfl,rfl,rfl,congrArg (fun z=>some (i64 z)) hj1,trivial⟩
 ·refine zE (A_ff hf (ZAU rfl rfl)) ?_
  have hnp:ZBD A s.rooms s.steps (i,jj)=false:=by rw[hnpe,decide_eq_false hf];rfl
  refine zy ?_;exact⟨(j+1,v2),(by show s.rooms.length-(j+1)<s.rooms.length-j;omega),rfl,hEcn,(by show i+1+(j+1)<=s.rooms.length;omega),hfin hnp hOn,rfl,rfl,rfl,rfl,congrArg (fun z=>some (i64 z)) hj1,trivial⟩
abbrev ZSx:List Nat:=[0,1,2,3,4,5,6,7,8,9,10,11,12,13,14,15,16,17,18,19,20,21,22,23,24,25]
abbrev ZSF:List Nat:=[0,1,2,3,4,5,6,7,8,9,10,11,12,13,14,15,16,17,18,19,21,22,23,24,25,26,27]
abbrev ZTJ:List Nat:=[0,1,2,3,4,5,6,7,8,9,10,11,12,13,14,15,16,17,18,19]
abbrev ZTA:List Nat:=[0,1,3,7,15,31,15,79,255,511,1023,2047,4095,8191,8191,8191,40959,122879,8191,270335,1048575,8191,2105343,8191,8396799,31465471,65019903,132128767,268435455,536870911,1073741823]
abbrev ZR4:List Nat:=[0,1,3,7,15,7,39,7,135,487,999,2023,4095,8191,16383,32767,16383,81919,16383,278527,999423,2047999,4145151,8388607,16777215,33554431]
section
variable {P:Program}{m:Mem}{h:Heap}{d:Option Tmp}{ty:TypeId}{pos:String}{af:Array Edge}{gu:Option (Nat×Bool)}
theorem ZNe {t el:TypeId}{x j:Operand}{b len cap k:Nat}{sp:Option Nat}{kj:IntKind}{z:Int}(ht:P.underlying t=some (.slice el))(hz:tsz P el=some 1)(hsp:sp=none\/sp=some 1)(hx:opk h m x=some (.slice (some ⟨b,0,sp⟩) len cap))(hj:opk h m j=some (.int kj z))(hk:z=(k:Int))(hle:k<=cap) :
  Aop P ⟨d,.slice t x none (some j) none,ty,pos,af,gu⟩ m h (.slice (some ⟨b,0,sp⟩) k cap) h:=by
 rcases hsp with rfl|rfl
 ·exact ZHa ht hz hx hj hk hle
 refine ZAe fun e hs=>?_;subst hk
 show ZDB P _ h e t x none (some j) none=_
 unfold ZDB;simp only[ZAM hs hx,opvo,ZAM hs hj];have:ZCY P t (.slice (some ⟨b,0,some 1⟩) len cap) none (some (.int kj (k:Int))) none=some (.slice (some ⟨b,0,some 1⟩) k cap):=by
  have hb:Nat.ble k cap=true:=Nat.ble_eq_true_of_le hle;have hb0:Nat.ble 0 k=true:=Nat.ble_eq_true_of_le (Nat.zero_le _);have hb1:Nat.ble cap cap=true:=Nat.ble_eq_true_of_le (Nat.le_refl _);unfold ZCY;rw[ht];simp only;have c1:bnd none cap cap=some cap:=by simp only[bnd,hb1]
  have c2:bnd (some (.int kj (k:Int))) len cap=some k:=by show bnd (some (.int kj (Int.ofNat k))) len cap=_;simp only[bnd,ZEA,hb]
  have c3:bnd none 0 k=some 0:=by simp only[bnd,hb0]
  rw[hz];simp only[sb,c1,c2,c3]
  rfl
 simp only[this]
end
theorem ZLJ (cans:List Cn)(w:List Int)(r:Int)(k:Nat):∀j,j<=k->amtR cans (w.take k) r j=amtR cans w r j
 | 0,_=>rfl
 | j+1,hj=>by
  show amtR _ _ _ _+inRm _ _ _=amtR _ _ _ _+inRm _ _ _
  have e:(w.take k).getD j 0=w.getD j 0:=by rw[List.getD_eq_getElem?_getD,List.getElem?_take_of_lt (by omega),<-List.getD_eq_getElem?_getD]
  rw[ZLJ cans w r k j (by omega),e]
theorem ZDG.of {α:Type}{nm:α->List UInt8}{wrong:α->Int}{l:List α}{k:Nat}(hk:k<l.length):ZDG nm wrong l k ↔ ZCv (nm l[k])=true/\nm l[k] ∉ (l.take k).map nm/\wrong l[k]=0:=by
 constructor
 ·rintro⟨x,e,q⟩
  rw[List.getElem?_eq_getElem hk] at e;cases e;exact q
 ·intro q
  exact⟨_,List.getElem?_eq_getElem hk,q⟩
theorem ZPN {n:Nat}{c:Cn}(h1:1<=c.base/\c.base<=3)(h2:1<=c.frames/\c.frames<=200000)(h3:0<=c.room/\c.room<=(n:Int)-1):ZCZ n c=0:=by
 unfold ZCZ;rw[if_neg (by omega),if_neg (by omega),if_neg (by omega)]
set_option maxHeartbeats 4000000 in
theorem ZQZ {h:Heap}{s:Si}{d:SAd}(hS:SiAt h s d)(hR:Len s.rooms)(hC:Len s.cans)(hT:Len s.steps)(hNr:∀x∈s.rooms,Len x.name)(hNc:∀x∈s.cans,Len x.name) :
  Sv Tryz.prog 4 [.agg ⟨ZFh s d⟩] h (RetP fun v h'=>Ext h h'/\ZNR (ZEs s) v):=by
 refine ZA5 fun hw=>?_;obtain⟨ar,cr,ac,cc,ast,cst⟩:=d;refine ZAG Tryz.func4 rfl (by rw[Tryz.ntmps4];rfl) ?_;show Wc Tryz.prog ⟨4,242,none⟩ _ _ _ _ _;refine zy ?_;refine ZAn rfl rfl rfl fun h1 hE1 hW1 hg1 hn1=>?_;generalize h.nx=b1 at hg1 ⊢;refine zy ?_
 by_cases c1:1<=(s.rooms.length:Int)/\(s.rooms.length:Int)<=12
 rotate_left
 ·refine zV (ZBK (decide_eq_false c1) _) ?_
  exact ZAC (ZAD rfl ⟨hE1,.no (by decide) fun q=>by have:=q.len;omega⟩)
 refine zV (ZBK (decide_eq_true c1) _) ?_;refine zC (ZA4 rfl rfl) (fun c2=>?_) (fun c2=>?_)
 ·refine zy ?_
  exact ZAC (ZAD rfl ⟨hE1,.no (by decide) fun q=>by have:=q.len;omega⟩)
 refine zy ?_;refine zC (ZA4 rfl rfl) (fun c3=>?_) (fun c3=>?_)
 ·refine zy ?_
  exact ZAC (ZAD rfl ⟨hE1,.no (by decide) fun q=>by have:=q.len;omega⟩)
 have hlen:(1<=s.rooms.length/\s.rooms.length<=12)/\s.cans.length<=30/\s.steps.length<=8:=by omega
 refine zy ?_;refine ZAN (fun (st:Nat×Value) m ds h'=>ds=[]/\Ext h1 h'/\st.1<=s.rooms.length/\Own h1 h' [slI h1 st.2 9 1 (((s.rooms.take st.1).map Rm.name).map str) st.1]/\(∀j,j<st.1->ZDG Rm.name ZBm s.rooms j)/\AllK m [(1,.pointer (some ⟨b1,0,none⟩)),(5,st.2),(6,i64 (st.1:Nat))]) (fun st=>s.rooms.length-st.1) (0,.slice none 0 0) ?_ ?_
 ·exact⟨rfl,Ext.refl _,Nat.zero_le _,(Own.nil h1 h1).nilSl 9 1,(fun j hj=>absurd hj (Nat.not_lt_zero _)),rfl,rfl,rfl,trivial⟩
 rintro⟨k,v⟩ m ds h2 ⟨rfl,hE2,hkl,hO2,hnm,hall⟩;refine Wc.le (ZBR fun hW2=>?_) (Le.kn hall);clear hall;simp only at hkl hO2 hnm ⊢;have hg2:=hE2.get hg1;refine zy ?_;refine zC (ZAU rfl rfl) (fun hlt=>?_) (fun hlt=>?_)
 ·have hk':k<s.rooms.length:=by omega
  obtain⟨b,o,oa,ear,row,hrow,hxr⟩:=hS.r k hk';have htk:(s.rooms.take (k+1)).map Rm.name=(s.rooms.take k).map Rm.name++[s.rooms[k].name]:=by
   rw[List.take_add_one,List.map_append,List.getElem?_eq_getElem hk'];rfl
  have hof:=ZDG.of (nm:=Rm.name) (wrong:=ZBm) hk';have hno:∀{q:Prop},(ZDG Rm.name ZBm s.rooms k->q)->ZEs s->q:=fun f z=>f (z.rooms k hk');have hup:ZDG Rm.name ZBm s.rooms k->∀j,j<k+1->ZDG Rm.name ZBm s.rooms j:=by
   intro z j hj
   rcases Nat.lt_succ_iff_lt_or_eq.1 hj with q|rfl
   ·exact hnm j q
   ·exact z
  rw[hof] at hno hup;have hnl:=hNr _ (List.getElem_mem hk');have hbl:((s.rooms.take k).map Rm.name).length=k:=by rw[List.length_map,List.length_take];omega
  generalize s.rooms[k]=x at *;generalize (s.rooms.take k).map Rm.name=B at *;have hx':row=ZB3 x:=hxr;subst hx';replace ear:ar=some ⟨b,o,oa⟩:=ear;subst ear;have hrow2:=(hE1.trans hE2).row hrow;have d0:ZAS h2 b (o+k*10+0)=some (str x.name):=ZAK (k:=0) hrow2 rfl;obtain⟨ab,rfl,-,hlb⟩:=ZAF.list (show ZAF _ _ _ _ _ _ _ from hO2.p1);refine zy ?_;refine zD (A_ix (k:=k) Und.h Tsz.h rfl rfl hk') ?_;refine zR (ZN4 (c:=B.length) hnl hlb (by omega)) ?_;rintro _ h2 ⟨⟨e,rfl,he⟩,rfl⟩;refine zy ?_
  by_cases e0:e=0
  rotate_left
  ·refine zD (A_ff e0 (ZAg rfl rfl)) ?_
   refine zD (A_tt e0 (ZAh rfl rfl)) ?_;exact ZAC (ZAD rfl ⟨hE1.trans hE2,.no e0 (hno fun q=>e0 (he.2 ⟨q.1,q.2.1⟩))⟩)
  refine zE (A_tt e0 (ZAg rfl rfl)) ?_;have hn1:=he.1 e0;refine zy ?_;refine zD (A_ix (k:=k) Und.h Tsz.h rfl rfl hk') ?_;refine zR (ZSE x h2) ?_;rintro _ h3 ⟨⟨e3,rfl,he3⟩,hE3⟩;have hg3:=hE3.get hg2;have d3:=hE3.cell d0;have hO3:=hO2.ext hE3;replace hE3:=hE2.trans hE3;refine zy ?_;refine zC (ZAh rfl rfl) (fun e1=>?_) (fun e1=>?_)
  ·refine zy ?_
   exact ZAC (ZAD rfl ⟨hE1.trans hE3,.no e1 (hno fun q=>e1 (he3.2 q.2.2))⟩)
  have hr:=he3.1 (Decidable.not_not.1 e1);refine zy ?_;refine zD (A_ix (k:=k) Und.h Tsz.h rfl rfl hk') ?_;refine ZBg (cs:=[str x.name]) rfl rfl Und.h Tsz.h Zr.h rfl rfl rfl rfl rfl fun h4 hE4 hW4 hg4 hn4=>?_;refine zy ?_;refine ZAo (k:=1) (n:=k) (l:=[str x.name]) hW1 (hE3.trans hE4) rfl rfl rfl rfl rfl Und.h inferInstance rfl rfl (hO3.ext hE4) (ZAs Und.h (by intro k;simp) (ZAP hg4 rfl)) rfl rfl (by omega) (by omega) fun v5 h5 hW5 hO5 hE5=>?_;refine zy ?_;exact⟨(k+1,v5),(by show s.rooms.length-(k+1)<s.rooms.length-k;omega),rfl,hE5,hk',(by simp only[htk,List.map_append];exact hO5),hup ⟨hn1.1,hn1.2,hr⟩,rfl,rfl,rfl,trivial⟩
 have hRm:NmOk Rm.name ZBm s.rooms:=fun j hj=>hnm j (by omega);clear hnm hlt hkl hO2;replace hE2:=hE1.trans hE2;clear hE1 hg1 hW1;refine zy ?_;refine ZAN (fun (st:Nat×Value) m ds h'=>ds=[]/\Ext h2 h'/\st.1<=s.cans.length/\Own h2 h' [slI h2 st.2 9 1 (((s.cans.take st.1).map Cn.name).map str) st.1]/\(∀j,j<st.1->ZDG Cn.name (ZCZ s.rooms.length) s.cans j)/\AllK m [(1,.pointer (some ⟨b1,0,none⟩)),(5,st.2),(8,i64 (st.1:Nat))]) (fun st=>s.cans.length-st.1) (0,.slice none 0 0) ?_ ?_
 ·exact⟨rfl,Ext.refl _,Nat.zero_le _,(Own.nil h2 h2).nilSl 9 1,(fun j hj=>absurd hj (Nat.not_lt_zero _)),rfl,rfl,rfl,trivial⟩
 rintro⟨k,v⟩ m ds h3 ⟨rfl,hE3,hkl,hO3,hnm,hall⟩;refine Wc.le (ZBR fun hW3=>?_) (Le.kn hall);clear hall;simp only at hkl hO3 hnm ⊢;have hg3:=hE3.get hg2;refine zy ?_;refine zC (ZAU rfl rfl) (fun hlt=>?_) (fun hlt=>?_)
 ·have hk':k<s.cans.length:=by omega
  obtain⟨b,o,oa,eac,row,hrow,hxr⟩:=hS.c k hk';have htk:(s.cans.take (k+1)).map Cn.name=(s.cans.take k).map Cn.name++[s.cans[k].name]:=by
   rw[List.take_add_one,List.map_append,List.getElem?_eq_getElem hk'];rfl
  have hof:=ZDG.of (nm:=Cn.name) (wrong:=ZCZ s.rooms.length) hk';have hno:∀{q:Prop},(ZDG Cn.name (ZCZ s.rooms.length) s.cans k->q)->ZEs s->q:=fun f z=>f (z.cans k hk');have hup:ZDG Cn.name (ZCZ s.rooms.length) s.cans k->∀j,j<k+1->ZDG Cn.name (ZCZ s.rooms.length) s.cans j:=by
   intro z j hj
   rcases Nat.lt_succ_iff_lt_or_eq.1 hj with q|rfl
   ·exact hnm j q
   ·exact z
  rw[hof] at hno hup;have hnl:=hNc _ (List.getElem_mem hk');have hbl:((s.cans.take k).map Cn.name).length=k:=by rw[List.length_map,List.length_take];omega
  generalize s.cans[k]=x at *;generalize (s.cans.take k).map Cn.name=B at *;have hx':row=ZCz x:=hxr;subst hx';replace eac:ac=some ⟨b,o,oa⟩:=eac;subst eac;have hrow2:=(hE2.trans hE3).row hrow;obtain⟨ab,rfl,-,hlb⟩:=ZAF.list (show ZAF _ _ _ _ _ _ _ from hO3.p1);refine zy ?_;refine zD (A_ix (k:=k) Und.h Tsz.h rfl rfl hk') ?_;refine ZAJ rfl rfl Zr.h Tsz.h rfl (fun _=>rfl) rfl rfl rfl fun h4 hE4 hW4 hg4 hn4=>?_;replace hlb:=ZAi.ext hlb hE4;have hO4:=hO3.ext hE4;have hgs:=hE4.get hg3;replace hE4:=hE3.trans hE4;clear hrow2 hO3 hg3;refine zy ?_;refine zR (ZN4 (c:=B.length) hnl hlb (by omega)) ?_;rintro _ h4 ⟨⟨e,rfl,he⟩,rfl⟩
  refine zy ?_
  by_cases e0:e=0
  rotate_left
  ·refine zD (A_ff e0 (ZAg rfl rfl)) ?_
   refine zD (A_ff e0 (ZAg rfl rfl)) ?_;refine zD (A_ff e0 (ZAg rfl rfl)) ?_;refine zD (A_tt e0 (ZAh rfl rfl)) ?_;exact ZAC (ZAD rfl ⟨hE2.trans hE4,.no e0 (hno fun q=>e0 (he.2 ⟨q.1,q.2.1⟩))⟩)
  refine zE (A_tt e0 (ZAg rfl rfl)) ?_;have hn1:=he.1 e0;refine zy ?_
  by_cases q1:1<=x.base/\x.base<=3
  rotate_left
  ·refine zV (ZBK (decide_eq_false q1) _) ?_
   refine zD (A_ff (show ¬(2:Int)=0 by decide) (ZAg rfl rfl)) ?_;refine zD (A_ff (show ¬(2:Int)=0 by decide) (ZAg rfl rfl)) ?_;refine zD (A_tt (show ¬(2:Int)=0 by decide) (ZAh rfl rfl)) ?_;exact ZAC (ZAD rfl ⟨hE2.trans hE4,.no (by decide) (hno fun q=>q1 (ZDR q.2.2).1)⟩)
  refine zV (ZBK (decide_eq_true q1) _) ?_;refine zD (A_tt e0 (ZAg rfl rfl)) ?_
  by_cases q2:1<=x.frames/\x.frames<=200000
  rotate_left
  ·refine zV (ZBK (decide_eq_false q2) _) ?_
   refine zD (A_ff (show ¬(7:Int)=0 by decide) (ZAg rfl rfl)) ?_;refine zD (A_tt (show ¬(7:Int)=0 by decide) (ZAh rfl rfl)) ?_;exact ZAC (ZAD rfl ⟨hE2.trans hE4,.no (by decide) (hno fun q=>q2 (ZDR q.2.2).2.1)⟩)
  refine zV (ZBK (decide_eq_true q2) _) ?_;refine zD (A_tt e0 (ZAg rfl rfl)) ?_
  by_cases q3:0<=x.room/\x.room<=(s.rooms.length:Int)-1
  rotate_left
  ·refine zV (ZBK (decide_eq_false q3) _) ?_
   refine zD (A_tt (show ¬(4:Int)=0 by decide) (ZAh rfl rfl)) ?_;exact ZAC (ZAD rfl ⟨hE2.trans hE4,.no (by decide) (hno fun q=>q3 (by have:=(ZDR q.2.2).2.2;omega))⟩)
  refine zV (ZBK (decide_eq_true q3) _) ?_;refine zD (A_ff (fun q=>q e0) (ZAh rfl rfl)) ?_;refine ZBg (cs:=[str x.name]) rfl rfl Und.h Tsz.h Zr.h rfl rfl rfl rfl rfl fun h5 hE5 hW5 hg5 hn5=>?_;refine zy ?_;refine ZAo (k:=1) (n:=k) (l:=[str x.name]) hW2 (hE4.trans hE5) rfl rfl rfl rfl rfl Und.h inferInstance rfl rfl (hO4.ext hE5) (ZAs Und.h (by intro k;simp) (ZAP hg5 rfl)) rfl rfl (by omega) (by omega) fun v6 h6 hW6 hO6 hE6=>?_;refine zy ?_;exact⟨(k+1,v6),(by show s.cans.length-(k+1)<s.cans.length-k;omega),rfl,hE6,hk',(by simp only[htk,List.map_append];exact hO6),hup ⟨hn1.1,hn1.2,ZPN q1 q2 q3⟩,rfl,rfl,rfl,trivial⟩
 have hCn:NmOk Cn.name (ZCZ s.rooms.length) s.cans:=fun j hj=>hnm j (by omega);clear hnm hlt hkl hO3;replace hE3:=hE2.trans hE3;clear hE2 hg2 hW2;refine zy ?_
 by_cases r1:1<=s.rlo/\s.rlo<=100
 rotate_left
 ·refine zV (ZBK (decide_eq_false r1) _) ?_
  exact ZAC (ZAD rfl ⟨hE3,.no (by decide) fun q=>r1 (by have:=ZGT q.rate;omega)⟩)
 refine zV (ZBK (decide_eq_true r1) _) ?_
 by_cases r2:1<=s.rhi/\s.rhi<=100
 rotate_left
 ·refine zV (ZBK (decide_eq_false r2) _) ?_
  exact ZAC (ZAD rfl ⟨hE3,.no (by decide) fun q=>r2 (by have:=ZGT q.rate;omega)⟩)
 refine zV (ZBK (decide_eq_true r2) _) ?_;refine zC (ZA4 rfl rfl) (fun r3=>?_) (fun r3=>?_)
 ·refine zy ?_
  exact ZAC (ZAD rfl ⟨hE3,.no (by decide) fun q=>by have:=ZGT q.rate;omega⟩)
 have ho:oddS s.rlo s.rhi 1 100=0:=by
  unfold oddS;rw[if_neg (by omega),if_neg (by omega)]
 clear r1 r2 r3;refine zy ?_;refine ZAN (fun (k:Nat) m ds h'=>ds=[]/\Ext h3 h'/\k<=s.steps.length/\(∀j,j<k->StOk s.steps j)/\AllK m [(1,.pointer (some ⟨b1,0,none⟩)),(11,i64 (k:Nat))]) (fun k=>s.steps.length-k) 0 ?_ ?_
 ·exact⟨rfl,Ext.refl _,Nat.zero_le _,(fun j hj=>absurd hj (Nat.not_lt_zero _)),rfl,rfl,trivial⟩
 rintro k m ds h5 ⟨rfl,hE5,hkl,hst,hall⟩;refine Wc.le (ZBR fun hW5=>?_) (Le.kn hall);clear hall;have hg5:=hE5.get hg3;refine zy ?_;refine zC (ZAU rfl rfl) (fun hlt=>?_) (fun hlt=>?_)
 ·have hk':k<s.steps.length:=by omega
  obtain⟨b,o,oa,eac,row,hrow,hxr⟩:=hS.s k hk';have egx:=ZAW hk';have hno:∀{q:Prop},(StOk s.steps k->q)->ZEs s->q:=fun f z=>f (z.steps k hk');have hst1:=hst;unfold StOk at hno;rw[egx] at hno;have hup:((0<=s.steps[k].1/\s.steps[k].1<=10000000)/\0<=s.steps[k].2/\s.steps[k].2<=10000)/\(prvS s.steps k).1<s.steps[k].1/\(prvS s.steps k).2<=s.steps[k].2->∀j,j<k+1->StOk s.steps j:=by
   intro z j hj
   rcases Nat.lt_succ_iff_lt_or_eq.1 hj with q|rfl
   ·exact hst j q
   ·unfold StOk;rw[egx];exact z
  clear hst egx;generalize s.steps[k]=x at *;have hx':row=rowP x:=hxr;subst hx';replace eac:ast=some ⟨b,o,oa⟩:=eac;subst eac;have hrow2:=(hE3.trans hE5).row hrow;refine zy ?_;refine zD (A_ix Und.h Tsz.h rfl rfl) ?_;refine ZAJ rfl rfl Zr.h Tsz.h rfl (fun _=>rfl) rfl rfl rfl fun h6 hE6 hW6 hg6 hn6=>?_;have hgs:=hE6.get hg5;have hE56:=hE6;replace hE6:=hE5.trans hE6;refine zy ?_
  by_cases d1:0<=x.1/\x.1<=10000000
  rotate_left
  ·refine zV (ZBK (decide_eq_false d1) _) ?_
   exact ZAC (ZAD rfl ⟨hE3.trans hE6,.no (by decide) (hno (by omega))⟩)
  refine zV (ZBK (decide_eq_true d1) _) ?_
  by_cases d2:0<=x.2/\x.2<=10000
  rotate_left
  ·refine zV (ZBK (decide_eq_false d2) _) ?_
   exact ZAC (ZAD rfl ⟨hE3.trans hE6,.no (by decide) (hno (by omega))⟩)
  refine zV (ZBK (decide_eq_true d2) _) ?_
  rcases Nat.eq_zero_or_pos k with rfl|hkp
  ·refine ZAL hmix ZR4 ZSx none [] (by kernel_rfl) (by kernel_rfl) ?_
   refine z_m ?_;refine ZAB rfl rfl rfl rfl rfl (fun _=>A_ff (by omega) (ZA4 rfl rfl)) ?_;refine z_m ?_;refine g_f ?_;refine g_l ?_;refine g_f ?_;refine g_l ?_;refine g_m ?_;refine g_u ?_;refine z_o ?_;refine g_f ?_;refine g_l ?_;refine z_o ?_;refine g_m ?_;refine g_f ?_;refine g_l ?_;refine g_f ?_;refine g_l ?_;refine g_m ?_;refine g_u ?_;refine z_o ?_;refine g_f ?_;refine g_l ?_;refine z_o ?_;refine g_p ?_;refine z_p ?_;refine ZAO (ZAA rfl) nb' ?_;refine zy ?_;exact⟨1,(by show s.steps.length-1<s.steps.length-0;omega),rfl,hE6,hk',hup ⟨⟨d1,d2⟩,(by show (-1:Int)<x.1;omega),(by show (0:Int)<=x.2;omega)⟩,rfl,rfl,trivial⟩
  obtain⟨j,rfl⟩:∃j,k=j+1:=⟨k-1,by omega⟩;have hj':j<s.steps.length:=by omega
  have hpr:prvS s.steps (j+1)=s.steps.getD j default:=rfl;rw[ZAW hj'] at hpr;obtain⟨b',o',oa',eac',row',hrow',hxr'⟩:=hS.s j hj';generalize s.steps[j]=y at *;rw[hpr] at hno hup;have hx':row'=rowP y:=hxr';subst hx';cases (show some _=some _ from eac');have hrow6:=(hE3.trans hE6).row hrow';have p0:ZAS h6 b (o+j*2+0)=some (i64 y.1):=ZAK (k:=0) hrow6 rfl;have p1:ZAS h6 b (o+j*2+1)=some (i64 y.2):=ZAK (k:=1) hrow6 rfl;clear hrow6 hrow' hrow2
  by_cases d3:x.1<=y.1
  ·refine ZAL hmix ZR4 ZSx none [] (by kernel_rfl) (by kernel_rfl) ?_
   refine z_m ?_;refine ZAB rfl rfl rfl rfl rfl (fun _=>A_tt (by omega) (ZA4 rfl rfl)) ?_;refine z_m ?_;refine g_f ?_;refine g_l ?_;refine g_f ?_;refine g_l ?_;refine g_m ?_;refine g_u ?_
   first|refine ZAT rfl rfl rfl rfl ?_|refine ZAB rfl rfl rfl rfl rfl (fun _=>ZAE (k:=j) Und.h Tsz.h rfl rfl (by omega) hj') ?_
   refine g_f ?_;refine g_l ?_
   first|refine ZAT rfl rfl rfl rfl ?_|refine ZAB rfl rfl rfl rfl rfl (fun _=>A_tt (by omega) (ZEL rfl rfl)) ?_
   refine g_m ?_;refine g_f ?_;refine g_l ?_;refine g_f ?_;refine g_l ?_;refine g_m ?_;refine g_u ?_;refine z_o ?_;refine g_f ?_;refine g_l ?_;refine z_o ?_;refine g_p ?_;refine z_p ?_;refine ZAO (ZAA rfl) nb' ?_;refine zy ?_;exact ZAC (ZAD rfl ⟨hE3.trans hE6,.no (by decide) (hno (by omega))⟩)
  by_cases d4:x.2<y.2
  ·refine ZAL hmix ZR4 ZSx none [] (by kernel_rfl) (by kernel_rfl) ?_
   refine z_m ?_;refine ZAB rfl rfl rfl rfl rfl (fun _=>A_tt (by omega) (ZA4 rfl rfl)) ?_;refine z_m ?_;refine g_f ?_;refine g_l ?_;refine g_f ?_;refine g_l ?_;refine g_m ?_;refine g_u ?_
   first|refine ZAT rfl rfl rfl rfl ?_|refine ZAB rfl rfl rfl rfl rfl (fun _=>ZAE (k:=j) Und.h Tsz.h rfl rfl (by omega) hj') ?_
   refine g_f ?_;refine g_l ?_
   first|refine ZAT rfl rfl rfl rfl ?_|refine ZAB rfl rfl rfl rfl rfl (fun _=>A_ff (by omega) (ZEL rfl rfl)) ?_
   refine g_m ?_;refine g_f ?_;refine g_l ?_;refine g_f ?_;refine g_l ?_;refine g_m ?_;refine g_u ?_
   first|refine ZAT rfl rfl rfl rfl ?_|refine ZAB rfl rfl rfl rfl rfl (fun _=>ZAE (k:=j) Und.h Tsz.h rfl rfl (by omega) hj') ?_
   refine g_f ?_;refine g_l ?_
   first|refine ZAT rfl rfl rfl rfl ?_|refine ZAB rfl rfl rfl rfl rfl (fun _=>A_tt (by omega) (ZAU rfl rfl)) ?_
   refine g_p ?_;refine z_p ?_;refine ZAO (ZAA rfl) nb' ?_;refine zy ?_;exact ZAC (ZAD rfl ⟨hE3.trans hE6,.no (by decide) (hno (by omega))⟩)
  ·refine ZAL hmix ZR4 ZSx none [] (by kernel_rfl) (by kernel_rfl) ?_
   refine z_m ?_;refine ZAB rfl rfl rfl rfl rfl (fun _=>A_tt (by omega) (ZA4 rfl rfl)) ?_;refine z_m ?_;refine g_f ?_;refine g_l ?_;refine g_f ?_;refine g_l ?_;refine g_m ?_;refine g_u ?_
   first|refine ZAT rfl rfl rfl rfl ?_|refine ZAB rfl rfl rfl rfl rfl (fun _=>ZAE (k:=j) Und.h Tsz.h rfl rfl (by omega) hj') ?_
   refine g_f ?_;refine g_l ?_
   first|refine ZAT rfl rfl rfl rfl ?_|refine ZAB rfl rfl rfl rfl rfl (fun _=>A_ff (by omega) (ZEL rfl rfl)) ?_
   refine g_m ?_;refine g_f ?_;refine g_l ?_;refine g_f ?_;refine g_l ?_;refine g_m ?_;refine g_u ?_
   first|refine ZAT rfl rfl rfl rfl ?_|refine ZAB rfl rfl rfl rfl rfl (fun _=>ZAE (k:=j) Und.h Tsz.h rfl rfl (by omega) hj') ?_
   refine g_f ?_;refine g_l ?_
   first|refine ZAT rfl rfl rfl rfl ?_|refine ZAB rfl rfl rfl rfl rfl (fun _=>A_ff (by omega) (ZAU rfl rfl)) ?_
   refine g_p ?_;refine z_p ?_;refine ZAO (ZAA rfl) nb' ?_;refine zy ?_;exact⟨j+1+1,(by show s.steps.length-(j+1+1)<s.steps.length-(j+1);omega),rfl,hE6,hk',hup ⟨⟨d1,d2⟩,(by omega),(by omega)⟩,rfl,rfl,trivial⟩
 have hst':∀j,j<s.steps.length->StOk s.steps j:=fun j hj=>hst j (by omega);clear hst hlt hkl;replace hE5:=hE3.trans hE5;clear hE3 hg3 hW3;have hok:=ZMj hlen hRm hCn ho hst';have hcs:=hok.cans;have hcl:=hcs.len;refine zy ?_;refine zR (ZQL (hS.ext hE5) hcl) ?_;rintro _ h6 ⟨hE6,aw,rfl,hLw,hsw⟩;have hg6:=hE6.get hg5;replace hE6:=hE5.trans hE6;clear hE5 hg5;have hInR:InR s.rooms.length (s.cans.map Cn.room):=by
  intro r hr;obtain⟨c,hc,rfl⟩:=List.mem_map.1 hr;exact hcs.room c hc
 have hwl:(s.cans.map Cn.room).length=s.cans.length:=List.length_map _;refine zy ?_;refine ZAN (fun (k:Nat) m ds h'=>ds=[]/\Ext h6 h'/\k<=s.cans.length/\(∀j,j<k->AmOk s j)/\AllK m [(1,.pointer (some ⟨b1,0,none⟩)),(13,.slice aw s.cans.length s.cans.length),(14,i64 (k:Nat))]) (fun k=>s.cans.length-k) 0 ?_ ?_
 ·exact⟨rfl,Ext.refl _,Nat.zero_le _,(fun j hj=>absurd hj (Nat.not_lt_zero _)),rfl,rfl,rfl,trivial⟩
 rintro k m ds h7 ⟨rfl,hE7,hkl,ham,hall⟩;refine Wc.le (ZBR fun hW7=>?_) (Le.kn hall);clear hall;have hg7:=hE7.get hg6;refine zy ?_;refine zC (ZAU rfl rfl) (fun hlt=>?_) (fun hlt=>?_)
 ·have hk':k<s.cans.length:=by omega
  obtain⟨b,o,oa,eac,row,hrow,hxr⟩:=hS.c k hk';have egx:=ZAW hk';have hcr:=hcs.room _ (List.getElem_mem hk');have hno:∀{q:Prop},(AmOk s k->q)->ZEs s->q:=fun f z=>f (z.amt k hk');have hup:AmOk s k->∀j,j<k+1->AmOk s j:=by
   intro z j hj
   rcases Nat.lt_succ_iff_lt_or_eq.1 hj with q|rfl
   ·exact ham j q
   ·exact z
  have hrn:s.cans[k].room.toNat<s.rooms.length:=by omega
  have hsv:∀{h8:Heap},Ext h6 h8->Sv Tryz.prog 15 [.agg ⟨ZFh s ⟨ar,cr,ac,cc,ast,cst⟩⟩,.slice aw (k+1) s.cans.length,i64 s.cans[k].room] h8 (RetP fun v h'=>v=i64 ((amtK s.rooms.length s.cans (s.cans.map Cn.room) (k+1)).getD s.cans[k].room.toNat 0)/\Ext h8 h'):=fun {h8} hE=>by
   have q:=ZI2 (w:=(s.cans.map Cn.room).take (k+1)) (aw:=aw) (cw:=s.cans.length) (r:=s.cans[k].room) (hS.ext (hE6.trans hE)) hcs (ZAi.take (ZAi.ext hLw hE) (k+1)) (by rw[List.length_take];omega);have e1:((s.cans.map Cn.room).take (k+1)).length=k+1:=by rw[List.length_take];omega
   have e2:((s.cans[k].room.toNat:Nat):Int)=s.cans[k].room:=by omega
   rw[e1,ZLJ _ _ _ _ _ (Nat.le_refl _)] at q;rw[ZJw hInR hrn (k+1) (by omega),e2];exact q
  have hbd:=ZHu hcs.frames (s.cans.map Cn.room) s.cans[k].room (k+1) (by omega);unfold AmOk at hno hup;rw[egx] at hno;have hup2:(s.cans[k].base=1->(s.rooms.getD s.cans[k].room.toNat default).allows=true/\(amtK s.rooms.length s.cans (s.cans.map Cn.room) (k+1)).getD s.cans[k].room.toNat 0<=(s.rooms.getD s.cans[k].room.toNat default).most)->∀j,j<k+1->AmOk s j:=fun z=>hup (by rw[egx];exact z);clear hup ham egx hbd;generalize s.cans[k]=c at *;generalize (amtK s.rooms.length s.cans (s.cans.map Cn.room) (k+1)).getD c.room.toNat 0=z at *;obtain⟨br,orr,oar,ear,rowr,hrowr,hxrr⟩:=hS.r c.room.toNat hrn;have egr:=ZAW hrn
  rw[egr] at hno hup2;clear egr;generalize s.rooms[c.room.toNat]=x at *;have hx':row=ZCz c:=hxr;subst hx';have hx':rowr=ZB3 x:=hxrr;subst hx';replace eac:ac=some ⟨b,o,oa⟩:=eac;subst eac;replace ear:ar=some ⟨br,orr,oar⟩:=ear;subst ear;have hrow2:=(hE6.trans hE7).row hrow;refine zy ?_;refine zD (A_ix Und.h Tsz.h rfl rfl) ?_;refine ZAJ rfl rfl Zr.h Tsz.h rfl (fun _=>rfl) rfl rfl rfl fun h8 hE8 hW8 hg8 hn8=>?_;have hgs:=hE8.get hg7;have hrw8:=(hE6.trans (hE7.trans hE8)).row hrowr;replace hE8:=hE7.trans hE8;have c4:ZAS h8 br (orr+c.room.toNat*10+6)=some (.bool x.allows):=ZAK (k:=6) hrw8 rfl;have c5:ZAS h8 br (orr+c.room.toNat*10+7)=some (i64 x.most):=ZAK (k:=7) hrw8 rfl
  clear hrow2 hrw8 hrow hrowr;refine zy ?_
  by_cases hb:c.base=1
  rotate_left
  ·refine ZAL hmix ZTA ZSF (some 20) [([28,29,30],none)] (by kernel_rfl) (by kernel_rfl) ?_
   refine z_f ?_;refine z_l ?_;refine ZAB rfl rfl rfl rfl rfl (fun _=>A_ff hb (ZAg rfl rfl)) ?_;refine z_m ?_;refine g_f ?_;refine g_l ?_;refine g_f ?_;refine g_l ?_;refine z_o ?_;refine g_f ?_;refine g_l ?_;refine g_n ?_;refine g_m ?_;refine g_r ?_;refine g_m ?_;refine g_m ?_;refine g_y ?_;refine z_o ?_;refine g_f ?_;refine g_l ?_;refine g_f ?_;refine g_l ?_;refine g_f ?_;refine g_l ?_;refine z_o ?_;refine g_f ?_;refine g_l ?_;refine ZAI ZTJ (by kernel_rfl) rfl (ZAA rfl) rfl nb rfl (ZCq rfl ?_);refine z_o ?_;refine g_p ?_;refine z_p ?_;refine ZAO (by refine o_l 27 ?_;refine o_f 26 ?_;refine ZGK (i:=25) rfl rfl rfl rfl rfl ?_;refine o_l 24 ?_;refine o_f 23 ?_;refine o_l 22 ?_;refine o_f 21 ?_;exact ZAA rfl) nb' ?_
   refine zy ?_;exact⟨k+1,(by show s.cans.length-(k+1)<s.cans.length-k;omega),rfl,hE8,hk',hup2 (fun q=>absurd q hb),rfl,rfl,rfl,trivial⟩
  cases hal:x.allows with
  | false =>
   rw[hal] at c4 hno;refine ZAL hmix ZTA ZSF (some 20) [([28,29,30],none)] (by kernel_rfl) (by kernel_rfl) ?_;refine z_f ?_;refine z_l ?_;refine ZAB rfl rfl rfl rfl rfl (fun _=>A_tt hb (ZAg rfl rfl)) ?_;refine z_m ?_;refine g_f ?_;refine g_l ?_;refine g_f ?_;refine g_l ?_
   first|refine ZAT rfl rfl rfl rfl ?_|refine ZAB rfl rfl rfl rfl rfl (fun _=>ZAE (k:=c.room.toNat) Und.h Tsz.h rfl rfl (by omega) hrn) ?_
   refine g_f ?_;refine g_l ?_;refine g_n ?_;refine g_m ?_;refine g_r ?_;refine g_m ?_;refine g_m ?_;refine g_y ?_;refine z_o ?_;refine g_f ?_;refine g_l ?_;refine g_f ?_;refine g_l ?_;refine g_f ?_;refine g_l ?_;refine z_o ?_;refine g_f ?_;refine g_l ?_;refine ZAI ZTJ (by kernel_rfl) rfl (ZAA rfl) rfl nb rfl (ZCq rfl ?_);refine z_o ?_;refine g_p ?_;refine z_p ?_;refine ZAO (by refine o_l 27 ?_;refine o_f 26 ?_;refine ZGK (i:=25) rfl rfl rfl rfl rfl ?_;refine o_l 24 ?_;refine o_f 23 ?_;refine o_l 22 ?_;refine o_f 21 ?_;exact ZAA rfl) nb' ?_;refine zy ?_;exact ZAC (ZAD rfl ⟨hE6.trans hE8,.no (by decide) (hno fun q=>absurd (q hb).1 (by decide))⟩)
  | true =>
  rw[hal] at c4 hno hup2;obtain⟨bw,sw,rfl,hsw'⟩:=hsw (by omega)
  by_cases hmo:x.most<z
  ·refine ZAL hmix ZTA ZSF (some 20) [([28,29,30],none)] (by kernel_rfl) (by kernel_rfl) ?_
   refine z_f ?_;refine z_l ?_;refine ZAB rfl rfl rfl rfl rfl (fun _=>A_tt hb (ZAg rfl rfl)) ?_;refine z_m ?_;refine g_f ?_;refine g_l ?_;refine g_f ?_;refine g_l ?_
   first|refine ZAT rfl rfl rfl rfl ?_|refine ZAB rfl rfl rfl rfl rfl (fun _=>ZAE (k:=c.room.toNat) Und.h Tsz.h rfl rfl (by omega) hrn) ?_
   refine g_f ?_;refine g_l ?_;refine g_n ?_;refine g_m ?_;refine g_r ?_;refine g_m ?_;refine g_m ?_;refine g_y ?_
   first|refine ZAT rfl rfl rfl rfl ?_|refine ZAB rfl rfl rfl rfl rfl (fun _=>ZNe (k:=k+1) Und.h Tsz.h hsw' rfl rfl (by omega) (by omega)) ?_
   refine g_f ?_;refine g_l ?_;refine g_f ?_;refine g_l ?_;refine g_f ?_;refine g_l ?_
   first|refine ZAT rfl rfl rfl rfl ?_|refine ZAB rfl rfl rfl rfl rfl (fun _=>ZAE (k:=c.room.toNat) Und.h Tsz.h rfl rfl (by omega) hrn) ?_
   refine g_f ?_;refine g_l ?_;refine ZAI ZTJ (by kernel_rfl) rfl (ZAA rfl) rfl nb rfl (ZBJ rfl rfl rfl rfl rfl Bod.h (hsv hE8) (fun v9 h9 hv=>?_));obtain⟨rfl,hE9⟩:=hv;have c59:=hE9.cell c5;have hg9:=hE9.get hgs;have hg99:=hE9.get hg8
   first|refine ZAT rfl rfl rfl rfl ?_|refine ZAB rfl rfl rfl rfl rfl (fun _=>A_tt (by omega) (ZA4 rfl rfl)) ?_
   refine g_p ?_;refine z_p ?_;refine ZAO (by refine o_l 27 ?_;refine o_f 26 ?_;(first|refine ZGK (i:=25) rfl rfl rfl rfl rfl ?_|refine ZBZ (i:=25) rfl rfl rfl rfl rfl (fun _=>ZAE (k:=c.room.toNat) Und.h Tsz.h rfl rfl (by omega) hrn) rfl ?_);refine o_l 24 ?_;refine o_f 23 ?_;refine o_l 22 ?_;refine o_f 21 ?_;exact ZAA rfl) nb' ?_;refine zy ?_;exact ZAC (ZAD rfl ⟨hE6.trans (hE8.trans hE9),.no (by decide) (hno fun q=>absurd (q hb).2 (by omega))⟩)
  ·refine ZAL hmix ZTA ZSF (some 20) [([28,29,30],none)] (by kernel_rfl) (by kernel_rfl) ?_
   refine z_f ?_;refine z_l ?_;refine ZAB rfl rfl rfl rfl rfl (fun _=>A_tt hb (ZAg rfl rfl)) ?_;refine z_m ?_;refine g_f ?_;refine g_l ?_;refine g_f ?_;refine g_l ?_
   first|refine ZAT rfl rfl rfl rfl ?_|refine ZAB rfl rfl rfl rfl rfl (fun _=>ZAE (k:=c.room.toNat) Und.h Tsz.h rfl rfl (by omega) hrn) ?_
   refine g_f ?_;refine g_l ?_;refine g_n ?_;refine g_m ?_;refine g_r ?_;refine g_m ?_;refine g_m ?_;refine g_y ?_
   first|refine ZAT rfl rfl rfl rfl ?_|refine ZAB rfl rfl rfl rfl rfl (fun _=>ZNe (k:=k+1) Und.h Tsz.h hsw' rfl rfl (by omega) (by omega)) ?_
   refine g_f ?_;refine g_l ?_;refine g_f ?_;refine g_l ?_;refine g_f ?_;refine g_l ?_
   first|refine ZAT rfl rfl rfl rfl ?_|refine ZAB rfl rfl rfl rfl rfl (fun _=>ZAE (k:=c.room.toNat) Und.h Tsz.h rfl rfl (by omega) hrn) ?_
   refine g_f ?_;refine g_l ?_;refine ZAI ZTJ (by kernel_rfl) rfl (ZAA rfl) rfl nb rfl (ZBJ rfl rfl rfl rfl rfl Bod.h (hsv hE8) (fun v9 h9 hv=>?_));obtain⟨rfl,hE9⟩:=hv;have c59:=hE9.cell c5;have hg9:=hE9.get hgs;have hg99:=hE9.get hg8
   first|refine ZAT rfl rfl rfl rfl ?_|refine ZAB rfl rfl rfl rfl rfl (fun _=>A_ff (by omega) (ZA4 rfl rfl)) ?_
   refine g_p ?_;refine z_p ?_;refine ZAO (by refine o_l 27 ?_;refine o_f 26 ?_;(first|refine ZGK (i:=25) rfl rfl rfl rfl rfl ?_|refine ZBZ (i:=25) rfl rfl rfl rfl rfl (fun _=>ZAE (k:=c.room.toNat) Und.h Tsz.h rfl rfl (by omega) hrn) rfl ?_);refine o_l 24 ?_;refine o_f 23 ?_;refine o_l 22 ?_;refine o_f 21 ?_;exact ZAA rfl) nb' ?_;refine zy ?_;exact⟨k+1,(by show s.cans.length-(k+1)<s.cans.length-k;omega),rfl,hE8.trans hE9,hk',hup2 (fun _=>⟨rfl,by omega⟩),rfl,rfl,rfl,trivial⟩
 have ham':∀j,j<s.cans.length->AmOk s j:=fun j hj=>ham j (by omega);clear ham hlt hkl;have hE67:=hE6.trans hE7;have hne:=ZSl (aw:=aw) (cw:=s.cans.length) (hS.ext hE67) hok (w:=s.cans.map Cn.room) (ZAi.ext hLw hE7) hInR hwl;rw[hwl] at hne;clear hE6 hg6;refine zy ?_;refine zR (hne) ?_;rintro _ h9 ⟨hE9,a9,c9,rfl⟩;refine zy ?_;refine zC (ZA4 rfl rfl) (fun hgt=>?_) (fun hgt=>?_)
 ·refine zy ?_
  exact ZAC (ZAD rfl ⟨hE67.trans hE9,.no (by decide) fun q=>by have:=q.near;rw[this] at hgt;exact absurd hgt (by decide)⟩)
 refine zy ?_;refine ZAC (ZAD rfl ⟨hE67.trans hE9,0,0,0,rfl,fun _=>?_,fun _=>rfl⟩);exact⟨hlen,hRm,hCn,ho,hst',ham',List.length_eq_zero_iff.1 (by omega)⟩
abbrev xZ90:List Nat:=[0,1,2,3,4,5,6]
theorem ZPo {h:Heap}{v:Value}{c:Int}:Sv Tryz.prog 131 [v,i64 c] h (RetP fun r h'=>∃c1 c2,r=.func (.func 162) ⟨[]⟩ ⟨[.pointer (some ⟨c1,0,none⟩),.pointer (some ⟨c2,0,none⟩)]⟩/\Ext h h'/\Own h h' [ceI c2 [i64 c] 3 false,ceI c1 v.cells.toList 67 false]):=by
 refine ZA5 fun hw=>?_;refine ZAG Tryz.func131 rfl (by rw[Tryz.ntmps131];rfl) ?_;show Wc Tryz.prog ⟨131,6,none⟩ _ _ _ _ _;refine zy ?_;refine ZAn rfl rfl rfl fun h1 hE1 hW1 hg1 hn1=>?_;have hO1:=(Own.nil h h).newCe hw (Nat.le_refl _) hE1 hg1 (Nat.le_refl _);refine zy ?_;refine ZAn rfl rfl rfl fun h2 hE2 hW2 hg2 hn2=>?_;have hO2:=hO1.newCe hW1 hE1.2.1 hE2 hg2 (Nat.le_refl _);refine zy ?_;exact ZAC (ZAD rfl ⟨_,_,rfl,hE1.trans hE2,hO2⟩)
theorem Own.shufT {h0 h:Heap}{l R:List It}(hO:Own h0 h (l++R))(x:It)(p q:List Nat)(hp:p.Perm q)(e:l=p.map fun i=>l.getD i x):Own h0 h ((q.map fun i=>l.getD i x)++R):=hO.perm (((List.Perm.of_eq e).trans (hp.map _)).append_right _)
set_option maxHeartbeats 4000000 in
theorem ZUY {h:Heap}{bv cn H:Nat}{s:Si}{d:SAd}{ak:Option Addr}{ck:Nat}{kept:List Mv}(hV:VtAt h bv s d ak ck kept)(hok:s.Ok)(hm:Mvs s.cans.length s.rooms.length kept)(hcn:cn<s.cans.length)(hH:H<=2400) :
  Sv Tryz.prog 83 [.pointer (some ⟨bv,0,none⟩),i64 (cn:Nat),i64 (H:Nat)] h (RetP fun v h'=>v=ZOJ (tmS s kept (cn:Nat) H).1 (tmS s kept (cn:Nat) H).2/\Ext h h'):=by
 refine ZA5 fun hw=>?_;refine ZAG Tryz.func83 rfl (by rw[Tryz.ntmps83];rfl) ?_;show Wc Tryz.prog ⟨83,19,none⟩ _ _ _ _ _;refine zy ?_;refine ZAn rfl rfl rfl fun h1 hE1 hW1 hg1 hn1=>?_;have hO1:=(Own.nil h h).newCe hw (Nat.le_refl _) hE1 hg1 (Nat.le_refl _);refine zy ?_;refine ZA2 rfl rfl Zr.h fun h2 hE2 hW2 hg2 hn2=>?_;have hO2:=hO1.newCe hW1 hE1.2.1 hE2 hg2 (Nat.le_refl _);replace hE2:=hE1.trans hE2;generalize h.nx=b5 at hO2 ⊢;generalize h1.nx=b6 at hO2 ⊢;refine zy ?_;refine ZAa rfl rfl rfl rfl rfl Bod.h rfl rfl ZPo ?_;rintro _ h3 ⟨c1,c2,rfl,hE3,hO3'⟩;have hO3:=hO2.join hW2 hE2.2.1 hE3 hO3';replace hE3:=hE2.trans hE3
 clear hO2 hO1 hO3' hE1 hE2 hg1 hg2 hW1 hW2;refine ZBC fun hw3=>?_
 let X:Nat->Int×Int->List It:=fun n w=>[ceI b6 [i64 w.1,i64 w.2] spnT false,ceI b5 [i64 ((H:Int)-(n:Nat))] 3 false,ceI c1 [.pointer (some ⟨bv,0,none⟩)] 67 false,ceI c2 [i64 (cn:Nat)] 3 false]
 have hOX:Own h h3 (X 0 (0,0)):=by
  have e:((H:Int)-((0:Nat):Int))=(H:Int):=by omega
  show Own h h3 [_,ceI b5 [i64 ((H:Int)-((0:Nat):Int))] _ _,_,_]
  rw[e];exact hO3.shuf (ceI 0 [] 0 false) [0,1,2,3] [2,3,1,0] (by decide) rfl
 clear hO3;refine zy ?_;refine ZLT rfl rfl Bod.h (fun e hs hL hEL hWL hnL hLr hLl=>?_);generalize hrec:AO.loop LoopState.ready none _ _ _ _ _ _ _=rec at hLl;have hO1:Own h hL (loI h3.nx .defd::X 0 (0,0)):=hOX.new hw3 hE3.2.1 hEL hLr fun c hc=>by rw[show c=h3.nx from hc];exact Nat.le_refl _
 have hO2:Own h hL (loI (h3.nx+1) rec::loI h3.nx .defd::X 0 (0,0)):=by
  refine⟨fun x hx=>?_,fun x hx c hc=>?_,List.pairwise_cons.2 ⟨fun z hz c hc hzc=>?_,hO1.ap⟩⟩
  ·rcases List.mem_cons.1 hx with rfl|hx
   ·exact hLl
   ·exact hO1.has x hx
  ·rcases List.mem_cons.1 hx with rfl|hx
   ·rw[show c=h3.nx+1 from hc];have:=hE3.2.1;omega
   ·exact hO1.lo x hx c hc
  ·rw[show c=h3.nx+1 from hc] at hzc
   rcases List.mem_cons.1 hz with rfl|hz
   ·exact absurd (show h3.nx+1=h3.nx from hzc) (by omega)
   ·obtain⟨o,ho⟩:=z.ex (hOX.has z hz) hzc
    have:=hw3 _ _ ho;omega
 have hE1L:=hE3.trans hEL;clear hO1 hOX hLr hLl hEL hE3;generalize h3.nx=r0 at *
 let J:List It->Nat->Heap->Prop:=fun I n h'=>∃w,n<=H/\Own h h' ((X n w++I)++[loI (r0+1) rec,loI r0 .defd])/\Ext h h'
 let K:Heap->Prop:=fun h'=>∃fn nt e ps ag bd df,Own h h' (X H (tmS s kept (cn:Nat) H)++[loI (r0+1) (.loop .done (some (.exit 0)) fn nt e ps ag bd df),loI r0 .defd])/\Ext h h'
 have toJ:∀{Z h' o},Own h h' (loI (r0+1) o::loI r0 .defd::Z)->Own h h' (Z++[loI (r0+1) o,loI r0 .defd]):=fun hO=>hO.perm (List.perm_append_comm (l₁:=[_,_]));have ofJ:∀{Z h' o},Own h h' (Z++[loI (r0+1) o,loI r0 .defd])->Own h h' (loI (r0+1) o::loI r0 .defd::Z):=fun hO=>hO.perm (List.perm_append_comm (l₂:=[_,_]))
 refine (ZTE (J:=J) (K:=K) (l:=r0+1) hw hV hok hm hcn ⟨(0,0),Nat.zero_le _,by rw[List.append_nil];exact toJ hO2,hE1L⟩ (fun I n h' ⟨w,_,k1,k2⟩=>⟨k2,k1.has (ceI c1 _ _ _) (by simp[X]),k1.has (ceI c2 _ _ _) (by simp[X]),_,k1.perm (by
  rw[List.append_assoc,<-List.append_assoc I];exact List.perm_append_comm.trans (by rw[List.append_assoc]))⟩) (fun I I' n h1 h2 ⟨w,k0,k1,k2⟩ hT=>?_) (fun I n h' hn ⟨w,k0,k1,k2⟩=>?_)).ret ?_
 ·have k1':Own h h1 (I++(X n w++[loI (r0+1) rec,loI r0 .defd])):=k1.perm (by
   rw[<-List.append_assoc];exact (List.perm_append_comm).append_right _)
  obtain⟨k4,k5⟩:=hT _ k1' k2;exact⟨w,k0,k4.perm (by rw[<-List.append_assoc];exact (List.perm_append_comm).append_right _),k5⟩
 ·have hl':h'.get (r0+1)=some rec:=(ofJ k1).p1
  have kE:=k2;rw[<-hrec] at hl';refine ZNV hl' hs rfl rfl ?_;refine ZBR fun hw7=>?_;refine ZBs ?_;refine ZAJ rfl rfl Zr.h Tsz.h rfl (fun _=>rfl) rfl rfl rfl fun h8 hE8 hW8 hg8 hn8=>?_;have hl8:=hE8.get hl';refine ZD7 ⟨rfl,rfl,_,_,_,_,_,_,_,_,hl8,?_⟩;have hO8:=(ofJ k1).newCe hw7 kE.2.1 hE8 hg8 (Nat.le_refl _);have hE8':=kE.trans hE8;generalize h'.nx=b7 at hO8 ⊢;generalize hT:tmS s kept (cn:Nat) n=T at *;generalize hAO:AO.loop LoopState.busy _ _ _ _ _ _ _ _=bo;have hU9:=Upd.mk' h8 (r0+1) bo;obtain⟨hO9,hE9⟩:=hO8.up2.loSet hw hE8' hU9;generalize h8.set (r0+1) bo=h9 at *;clear hO8 hU9 hl8 hg8 hE8 hE8' k1 k2 hl' kE
  have hO9':Own h h9 ([loI (r0+1) bo,ceI b7 [i64 T.1,i64 T.2] spnT false,loI r0 .defd,ceI b6 [i64 w.1,i64 w.2] spnT false,ceI b5 [i64 ((H:Int)-(n:Nat))] 3 false,ceI c1 [.pointer (some ⟨bv,0,none⟩)] 67 false,ceI c2 [i64 (cn:Nat)] 3 false]++I):=hO9;have g7:h9.get b7=some (.cells [i64 T.1,i64 T.2] spnT false):=hO9'.p2;refine zy ?_;refine ZB6 (r:=[i64 T.1,i64 T.2]) hw hE9 rfl Tsz.h rfl rfl hO9'.up4 rfl rfl rfl fun h10 hW10 hO10 hE10=>?_;have hO10':Own h h10 ([ceI b6 [i64 T.1,i64 T.2] spnT false,loI (r0+1) bo,ceI b7 [i64 T.1,i64 T.2] spnT false,loI r0 .defd,ceI b5 [i64 ((H:Int)-(n:Nat))] 3 false,ceI c1 [.pointer (some ⟨bv,0,none⟩)] 67 false,ceI c2 [i64 (cn:Nat)] 3 false]++I):=hO10
  have g5:h10.get b5=some (.cells [i64 ((H:Int)-(n:Nat))] 3 false):=hO10'.has (ceI b5 _ _ _) (by simp);clear hO9 hO9' hO10 g7;refine zy ?_
  by_cases hnH:n=H
  ·subst hnH
   refine zE (A_tt (by omega) (ZAg rfl rfl)) ?_;have hlx:h10.get (r0+1)=some bo:=hO10'.p2;refine zy ?_;subst hAO
   have finK:∀bd,Own h (h10.set (r0+1) bd) (X n T++[loI (r0+1) bd,loI r0 .defd])/\Ext h (h10.set (r0+1) bd):=fun bd=>by
    obtain⟨k1,k2⟩:=(show Own h h10 (loI (r0+1) _::_) from hO10'.up2).loSet hw hE10 (Upd.mk' h10 (r0+1) bd);refine⟨?_,k2⟩;have k3:=Own.shufT (l:=[loI (r0+1) bd,ceI b6 [i64 T.1,i64 T.2] spnT false,ceI b7 [i64 T.1,i64 T.2] spnT false,loI r0 .defd,ceI b5 [i64 ((n:Int)-(n:Nat))] 3 false,ceI c1 [.pointer (some ⟨bv,0,none⟩)] 67 false,ceI c2 [i64 (cn:Nat)] 3 false]) (R:=I) k1 (ceI 0 [] 0 false) xZ90 [1,4,5,6,0,3,2] (by decide) rfl;exact k3.sub (List.sublist_append_left [_,_,_,_,_,_] (_::I))
   refine⟨some (.exit 0),.busy,none,_,_,e,_,_,_,_,rfl,hlx,.inr ⟨rfl,?_⟩⟩
   show ∃fn nt e ps ag bd df,Own h _ (X n (tmS s kept (cn:Nat) n)++_)/\_
   rw[hT];exact⟨_,_,_,_,_,_,_,(finK _).1,(finK _).2⟩
  ·refine zE (A_ff (by omega) (ZAg rfl rfl)) ?_
   have hO11:=Own.shufT (l:=[ceI b6 [i64 T.1,i64 T.2] spnT false,loI (r0+1) bo,ceI b7 [i64 T.1,i64 T.2] spnT false,loI r0 .defd,ceI b5 [i64 ((H:Int)-(n:Nat))] 3 false,ceI c1 [.pointer (some ⟨bv,0,none⟩)] 67 false,ceI c2 [i64 (cn:Nat)] 3 false]) (R:=I) hO10' (ceI 0 [] 0 false) xZ90 [4,0,1,2,3,5,6] (by decide) rfl;refine zy ?_;refine ZB6 (r:=[i64 ((H:Int)-(n:Nat)-1)]) hw hE10 rfl Tsz.h rfl rfl hO11 rfl rfl rfl fun h12 hW12 hO12 hE12=>?_;have hlx:h12.get (r0+1)=some bo:=hO12.p3;have e1:(H:Int)-(n:Nat)-1=(H:Int)-((n+1:Nat):Int):=by omega
   rw[e1] at hO12;refine zy ?_;subst hAO;refine⟨none,.busy,none,_,_,_,_,_,_,_,rfl,hlx,.inl ⟨rfl,T,(by omega),?_⟩⟩
   show Own h (h12.set (r0+1) _) _/\Ext h (h12.set (r0+1) _)
   simp only[Option.isNone_none,if_true];rw[hrec];obtain⟨k1,k2⟩:=(show Own h h12 (loI (r0+1) _::_) from hO12.up3).loSet hw hE12 (Upd.mk' h12 (r0+1) rec);refine⟨?_,k2⟩;have k3:=Own.shufT (l:=[loI (r0+1) rec,ceI b5 [i64 ((H:Int)-((n+1:Nat):Int))] 3 false,ceI b6 [i64 T.1,i64 T.2] spnT false,ceI b7 [i64 T.1,i64 T.2] spnT false,loI r0 .defd,ceI c1 [.pointer (some ⟨bv,0,none⟩)] 67 false,ceI c2 [i64 (cn:Nat)] 3 false]) (R:=I) k1 (ceI 0 [] 0 false) xZ90 [3,0,4,2,1,5,6] (by decide) rfl;exact toJ k3.tail
 ·rintro v h' (⟨I,w,hn,-,-⟩|⟨fn,nt,e',ps,ag,bd,df,hO',hE'⟩)
  ·exact absurd hn (by omega)
  ·have hl':h'.get (r0+1)=some (.loop .done (some (.exit 0)) fn nt e' ps ag bd df):=(ofJ hO').p1
   refine⟨.done,some (.exit 0),fn,nt,e',ps,ag,bd,df,hl',by simp,(fun hc=>nomatch hc),fun c hc=>?_⟩;cases hc;generalize hAO:AO.loop LoopState.exhausted _ _ _ _ _ _ _ _=bo;obtain⟨k1,k2⟩:=(ofJ hO').loSet hw hE' (Upd.mk' h' (r0+1) bo);generalize h'.set (r0+1) bo=h5 at *;generalize tmS s kept (cn:Nat) H=T at *;have hO5:Own h h5 ([loI r0 .defd,ceI b6 [i64 T.1,i64 T.2] spnT false]++[ceI b5 [i64 ((H:Int)-(H:Nat))] 3 false,ceI c1 [.pointer (some ⟨bv,0,none⟩)] 67 false,ceI c2 [i64 (cn:Nat)] 3 false]):=k1.tail;have g6:h5.get b6=some (.cells [i64 T.1,i64 T.2] spnT false):=hO5.p2;refine zy ?_;refine ZB6 (r:=[i64 T.1,i64 T.2]) hw k2 rfl Tsz.h rfl rfl hO5.up2 rfl rfl rfl fun h6 hW6 hO6 hE6=>?_
   have hO7:Own h h6 (ceI b6 [i64 T.1,i64 T.2] spnT false::loI r0 .defd :: [ceI b5 [i64 ((H:Int)-(H:Nat))] 3 false,ceI c1 [.pointer (some ⟨bv,0,none⟩)] 67 false,ceI c2 [i64 (cn:Nat)] 3 false]):=hO6;have hO12:Own h h6 ([r0].map (fun r=>loI r .defd)++[ceI b6 [i64 T.1,i64 T.2] spnT false]):=(hO7.up2).sub (List.sublist_append_left [_,_] [_,_,_]);have hcl:ZCr h h6 [r0]:=hO12.colls;have hO13:=hO12.del;have hr2:(delL h6 [r0]).get b6=some (.cells [i64 T.1,i64 T.2] spnT false):=hO13.p1;refine zy ?_;exact ZAC (ZJz hcl.nd hcl.defd (ZBT rfl (ZBp RowC.h (ZAP hr2 rfl)) rfl) ⟨rfl,hcl.ext0 hE6 hw⟩)
abbrev errT:TypeId:=30
abbrev errV (e:Int):Value:=.iface errT (i64 e)
section
variable {P:Program}{fr:Fr}{ops:Array Oper}{o:Oper}{m:Mem}{ds:List ADef}{h:Heap}
theorem ZHH {K Kp:Value->List ADef->Heap->Prop}{c:Call}{f:Operand}{g:FuncId}{first cap args:List Value}{b:Bool}{pv:Value}(hg:gk ops.toList m o.guard=some true)(hop:o.op=.call c)(hcal:c.callee=.value f)(hf:opk h m f=some (.func (.func g) ⟨first⟩ ⟨cap⟩))(ha:opkl h m c.args.toList=some args)
  (hb:ZAp P g=true) (hv:Sv P g (first++(args++cap)) h (fun r=>if b=true then r=.ret (.tuple ⟨[]⟩) h else r=.pan pv h))
  (ht:b=true->K (.tuple ⟨[]⟩) ds h) (hn:b=false->Kp pv ds h):W1 P fr ops o m ds h K Kp:=by
 refine ZEO hg hop hcal hf ha hb hv (fun v h1 hR=>?_) (fun v h1 hR=>?_)
 ·cases b
  ·simp at hR
  ·simp at hR
   obtain⟨rfl,rfl⟩:=hR;exact ht rfl
 ·cases b
  ·simp at hR
   obtain⟨rfl,rfl⟩:=hR;exact hn rfl
  ·simp at hR
end
theorem ZFV (b:Bool)(e:Int)(h:Heap):Sv Tryz.prog 80 [.bool b,i64 e] h (fun r=>if b=true then r=.ret (.tuple ⟨[]⟩) h else r=.pan (errV e) h):=by
 refine ZLF Tryz.func80 rfl (by rw[Tryz.ntmps80];rfl) ?_
 show Wc Tryz.prog ⟨80,8,none⟩ _ _ _ _ _
 cases b with
 | true =>
  refine zy ?_;exact ZMn rfl rfl
 | false =>
  refine zy ?_;refine zE (ZTu rfl) ?_;refine ZRu rfl rfl ?_;exact ZUi rfl
theorem ZNY (e:Int)(h:Heap):Sv Tryz.prog 80 [.bool false,i64 e] h (fun r=>r=.pan (errV e) h):=(ZFV false e h).mono fun r hr=>by simpa using hr
theorem ZC9 (e:Int)(h:Heap):Sv Tryz.prog 80 [.bool true,i64 e] h (RetP fun v h'=>v=.tuple ⟨[]⟩/\h'=h):=by
 refine ZAG Tryz.func80 rfl (by rw[Tryz.ntmps80];rfl) ?_;show Wc Tryz.prog ⟨80,8,none⟩ _ _ _ _ _;refine zy ?_;exact ZAz rfl ⟨rfl,rfl⟩
theorem ZKb {fn:Func}{m:Mem}{h:Heap}{R:VS->Prop}{p:Nat}{vp:Value}{rc:RC}
  (hp:h.get p=some (.cells [vp] errT false))
  (hn:rc=.none->LvR Tryz.prog fn m [] .none h R) (hs:∀e,rc=.some (errV e)->∀h1,Upd h p (.cells [i64 e] errT false) h1->LvR Tryz.prog fn m [] .none h1 R)
  (hrc:rc=.none\/∃e,rc=.some (errV e)):LvR Tryz.prog fn m [.fn 79 [] [.pointer (some ⟨p,0,none⟩)]] rc h R:=by
 refine ZVP Tryz.func79 rfl Bod.h (by rw[Tryz.ntmps79];rfl) ?_
 show Wz Tryz.prog ⟨79,7,none⟩ _ _ _ _ _
 rcases hrc with rfl|⟨e,rfl⟩
 ·refine ZNi ?_
  refine ZFk ?_;refine ZPg rfl rfl rfl rfl ?_;refine ZI9 rfl rfl (ZAj rfl) ?_;refine ZJ0 ?_;refine ZNi ?_;refine ZFk ?_;refine ZI9 rfl rfl (ZDW rfl) ?_;refine ZI9 rfl rfl (ZF0 Tryz.underlying20 rfl) ?_;refine ZJ0 ?_;refine ZSq rfl ?_;refine ZPa rfl (ZIL ⟨rfl,.inl rfl,rfl,hn rfl⟩)
 ·refine ZNi ?_
  refine ZFk ?_;refine ZPg rfl rfl rfl rfl ?_;refine ZI9 rfl rfl (ZAj rfl) ?_;refine ZJ0 ?_;refine ZNi ?_;refine ZFk ?_;refine ZI9 rfl rfl (ZDW rfl) ?_;refine ZI9 rfl rfl (ZQG Tryz.underlying20 rfl rfl) ?_;refine ZJ0 ?_;refine ZSv rfl ?_;refine ZPa rfl ?_;refine zy ?_;refine ZAf (r:=[i64 e]) rfl Tsz.h rfl rfl hp rfl rfl rfl fun h1 hU1=>?_;refine zy ?_;exact⟨rfl,.inl rfl,rfl,hs e rfl h1 hU1⟩
abbrev ZU9:List Nat:=[0,0,2,0,8,31,0,127,255,511]
abbrev ZVU:List Nat:=[0,0,2,7,15,0,32,127,255]
abbrev ZVK:List Nat:=[0,0,3,0,8,31,63,0,128,511,1023]
abbrev ZOq:List Nat:=[0,1,2,3,4,5,6,7,8,9,10,11,12,13,14]
abbrev ZUc:List Nat:=[0,1,2,3,4,5,6,7,8,9,10]
abbrev ZP9:List Nat:=[0,1,2,3,4,5,6,7,8,9]
abbrev ZUo:List Nat:=[0,1,2,3,4,5,6,7,8]
abbrev ZSR:List Nat:=[0,1,2,3,4,5,6,7]
abbrev ZUH:List Nat:=[0,1,2,3,4,5,6]
abbrev ZQQ:List Nat:=[0,1,3,7,15,0,32,127,255,511,1023]
abbrev ZPy:List Nat:=[0,1,3,7,15,7,39,103,231,7,999,2023,4071,8191,16383,32767]
abbrev mvT:TypeId:=39
noncomputable abbrev vtX (h0:Heap)(bv:Nat)(s:Si)(d:SAd)(kv:Value)(kept:List Mv):List It:=[slI h0 kv mvT 3 (kept.flatMap ZBW) kept.length,ceI bv (ZLP s d kv) vtT false]
structure Mv.Ok (m:Mv)(nc nr:Nat):Prop where
 hour:0<=m.hour/\m.hour<=2400
 can:0<=m.can/\m.can<nc
 to:0<=m.to/\m.to<nr
theorem ZU8 (x0 x1 x2:Value):Instr.fill (fun i=>some (i*3,3)) (rep 1 (Value.cells (.agg ⟨[i64 0,i64 0,i64 0]⟩)).toList).toArray [(0,.agg ⟨[x0,x1,x2]⟩)]=some ⟨[x0,x1,x2]⟩:=by kernel_rfl
set_option maxHeartbeats 8000000 in
theorem ZUI {h0 h:Heap}{bv:Nat}{s:Si}{d:SAd}{kv:Value}{kept:List Mv}{mv:Mv}{R:List It}(hw0:WF h0)(hE0:Ext h0 h)(hS:SiAt h0 s d)(hok:s.Ok)(hm:Mvs s.cans.length s.rooms.length kept)(hmv:mv.Ok s.cans.length s.rooms.length)(hO:Own h0 h (vtX h0 bv s d kv kept++R)) :
  Sv Tryz.prog 44 [.pointer (some ⟨bv,0,none⟩),.agg ⟨ZBW mv⟩] h (RetP fun v h'=>v=i64 (ZEV s kept mv)/\Ext h0 h'/\∃kv',Own h0 h' (vtX h0 bv s d kv' (ZBP s kept mv)++R)):=by
 refine ZA5 fun hw=>?_;obtain⟨ak,rfl,hKs,-⟩:=ZAF.rowsAt (enc:=ZBW) (k:=3) (fun _=>rfl) (show ZAF _ _ _ _ _ _ _ from hO.p1) rfl
 have hV:∀{k},Ext h0 k->Own h0 k (vtX h0 bv s d (.slice ak kept.length kept.length) kept++R)->VtAt k bv s d ak kept.length kept:=fun hE hO'=>⟨hO'.p2,hS.ext hE,by
  obtain⟨ak',e',hKs',-⟩:=ZAF.rowsAt (enc:=ZBW) (k:=3) (fun _=>rfl) (show ZAF _ _ _ _ _ _ _ from hO'.p1) rfl;cases e';exact hKs'.1⟩
 have hV0:=hV hE0 hO;obtain⟨ar,cr,ac,cc,ast,cst⟩:=d;have hml:=hm.len;refine ZLF Tryz.func44 rfl (by rw[Tryz.ntmps44];rfl) ?_
 show Wc Tryz.prog ⟨44,110,none⟩ _ _ _ _ _
 refine zy ?_;refine ZAn rfl rfl rfl fun h1 hE1 hW1 hg1 hn1=>?_;have hO1:=hO.newCe hw hE0.2.1 hE1 hg1 (Nat.le_refl _);have hE01:=hE0.trans hE1;refine zy ?_;refine ZA2 rfl rfl Zr.h fun h2 hE2 hW2 hg2 hn2=>?_;have hO2:=hO1.newCe hW1 hE01.2.1 hE2 hg2 (Nat.le_refl _);have hE02:=hE01.trans hE2;have hV2:=hV0.ext (hE1.trans hE2);clear hO1 hE01 hW1 hg1 hn1 hg2 hn2 hE1 hE2 hV0 hW2;generalize h.nx=b3 at hO2 ⊢;generalize h1.nx=b4 at hO2 ⊢;have hO2':Own h0 h2 ([ceI b4 [i64 0] errT false,ceI b3 (ZBW mv) mvT false]++(vtX h0 bv s ⟨ar,cr,ac,cc,ast,cst⟩ (.slice ak kept.length kept.length) kept++R)):=hO2;clear hO2
 have hfail:∀{hx mm e},mm 4=some (.pointer (some ⟨b4,0,none⟩))->WF hx->ZEV s kept mv=e->e≠0->Ext h2 hx->LvR Tryz.prog Tryz.f44 mm [.fn 79 [] [.pointer (some ⟨b4,0,none⟩)]] (.some (errV e)) hx (RetP fun v h'=>v=i64 (ZEV s kept mv)/\Ext h0 h'/\∃kv',Own h0 h' (vtX h0 bv s ⟨ar,cr,ac,cc,ast,cst⟩ kv' (ZBP s kept mv)++R)):=fun {hx mm e} hm4 hWx he hne hE=>by
  have hOx:=hO2'.ext hE;refine ZKb hOx.p1 (fun q=>nomatch q) (fun e' q h3 hU=>?_) (.inr ⟨e,rfl⟩);cases q;obtain⟨k1,k2⟩:=(show Own h0 hx (ceI b4 _ _ _::_) from hOx).putCe hWx (hE02.trans hE) hw0 hU;refine ZMn (vs:=[i64 e]) (ZBT hm4 (ZJC OneC.h (ZAb hU.at' rfl)) rfl) ⟨by rw[he];rfl,k2,.slice ak kept.length kept.length,?_⟩;have hps:ZBP s kept mv=kept:=by unfold ZBP;rw[if_neg (by rw[he];exact hne)]
  rw[hps];exact k1.tail.tail
 have g3:h2.get b3=some (.cells (ZBW mv) mvT false):=hO2'.p2;have gV:h2.get bv=some (.cells (ZLP s ⟨ar,cr,ac,cc,ast,cst⟩ (.slice ak kept.length kept.length)) vtT false):=hV2.g;refine zy ?_;refine ZS1 rfl rfl rfl rfl rfl Bod.h ?_;refine ZBC fun hW2=>?_;refine zy ?_
 by_cases c1:kept≠[]/\mv.hour<(kept.getD (kept.length-1) default).hour
 ·obtain⟨hne,hlt⟩:=c1
  have hpos:=List.length_pos_iff.2 hne;have hl:kept.length-1<kept.length:=by omega
  rw[ZAW hl] at hlt;obtain⟨bk,ok,oak,eak,rowk,hrowk,hxk⟩:=hV2.k (kept.length-1) hl;have hms:ZEV s kept mv=130:=by unfold ZEV;rw[if_pos ⟨hne,by rw[ZAW hl];exact hlt⟩]
  generalize kept[kept.length-1]=lm at *;have hxk':rowk=ZBW lm:=hxk;subst hxk';subst eak;have hc0:ZAS h2 bk (ok+(kept.length-1)*3+0)=some (i64 lm.hour):=ZAK (k:=0) hrowk rfl;refine ZAL hmix ZPy ZOq (some 15) [([],none)] (by kernel_rfl) (by kernel_rfl) ?_;refine z_m ?_;refine ZAB rfl rfl rfl rfl rfl (fun _=>A_ff (by omega) (ZAU rfl rfl)) ?_;refine z_m ?_;refine g_f ?_;refine g_l ?_;refine g_m ?_;refine g_q ?_;refine g_f ?_;refine g_l ?_;refine g_m ?_
  first|refine ZAT rfl rfl rfl rfl ?_|refine ZAB rfl rfl rfl rfl rfl (fun _=>ZAE (k:=kept.length-1) Und.h Tsz.h rfl rfl (by omega) hl) ?_
  refine g_f ?_;refine g_l ?_
  first|refine ZAT rfl rfl rfl rfl ?_|refine ZAB rfl rfl rfl rfl rfl (fun _=>A_ff (by omega) (ZFD rfl rfl)) ?_
  refine z_p ?_;refine ZAI ZOq (by kernel_rfl) rfl (ZAA rfl) rfl nb rfl (ZHH rfl rfl rfl rfl rfl Bod.h (ZFV false 130 h2) (fun hb=>nomatch hb) (fun _=>?_));exact hfail rfl hW2 hms (by decide) (Ext.refl _)
 refine Wc.mono (Q:=fun z m' ds' h'=>z=.normal/\ds'=[.fn 79 [] [.pointer (some ⟨b4,0,none⟩)]]/\h2=h'/\AllK m' [(0,.pointer (some ⟨bv,0,none⟩)),(3,.pointer (some ⟨b3,0,none⟩)),(4,.pointer (some ⟨b4,0,none⟩))]) ?_ ?_
 ·by_cases hk0:kept.length=0
  ·refine ZAL hmix ZPy ZOq (some 15) [([],none)] (by kernel_rfl) (by kernel_rfl) ?_
   refine z_m ?_;refine ZAB rfl rfl rfl rfl rfl (fun _=>A_tt (by omega) (ZAU rfl rfl)) ?_;refine z_m ?_;refine z_o ?_;refine z_o ?_;refine z_o ?_;refine z_o ?_;refine z_o ?_;refine z_o ?_;refine z_o ?_;refine z_o ?_;refine z_o ?_;refine z_o ?_;refine z_o ?_;refine z_p ?_;refine ZAI ZOq (by kernel_rfl) rfl (ZAA rfl) rfl nb rfl (ZAX rfl rfl rfl rfl rfl Bod.h (ZC9 130 h2) ?_);refine ZAO (ZAA rfl) nb' ?_;exact⟨rfl,rfl,rfl,rfl,rfl,rfl,trivial⟩
  ·have hl:kept.length-1<kept.length:=by omega
   have hne:kept≠[]:=fun e=>hk0 (by rw[e];rfl);have hge:¬mv.hour<(kept.getD (kept.length-1) default).hour:=fun q=>c1 ⟨hne,q⟩;rw[ZAW hl] at hge;obtain⟨bk,ok,oak,eak,rowk,hrowk,hxk⟩:=hV2.k (kept.length-1) hl;generalize kept[kept.length-1]=lm at *;have hxk':rowk=ZBW lm:=hxk;subst hxk';subst eak;have hc0:ZAS h2 bk (ok+(kept.length-1)*3+0)=some (i64 lm.hour):=ZAK (k:=0) hrowk rfl;refine ZAL hmix ZPy ZOq (some 15) [([],none)] (by kernel_rfl) (by kernel_rfl) ?_;refine z_m ?_;refine ZAB rfl rfl rfl rfl rfl (fun _=>A_ff (by omega) (ZAU rfl rfl)) ?_;refine z_m ?_;refine g_f ?_;refine g_l ?_;refine g_m ?_;refine g_q ?_;refine g_f ?_;refine g_l ?_;refine g_m ?_
   first|refine ZAT rfl rfl rfl rfl ?_|refine ZAB rfl rfl rfl rfl rfl (fun _=>ZAE (k:=kept.length-1) Und.h Tsz.h rfl rfl (by omega) hl) ?_
   refine g_f ?_;refine g_l ?_
   first|refine ZAT rfl rfl rfl rfl ?_|refine ZAB rfl rfl rfl rfl rfl (fun _=>A_tt (by omega) (ZFD rfl rfl)) ?_
   refine z_p ?_;refine ZAI ZOq (by kernel_rfl) rfl (ZAA rfl) rfl nb rfl (ZAX rfl rfl rfl rfl rfl Bod.h (ZC9 130 h2) ?_);refine ZAO (ZAA rfl) nb' ?_;exact⟨rfl,rfl,rfl,rfl,rfl,rfl,trivial⟩
 rintro _ m1 _ _ ⟨rfl,rfl,rfl,hall⟩
 show Wc _ _ _ _ _ _ _
 refine Wc.le ?_ (Le.kn hall);clear hall;have hcn:=hmv.can;have htn:=hmv.to;have hrl:=hok.rlen;refine zy ?_;refine zR (ZJ6 (hr:=mv.hour) hV2 hok.cans.len hml hm.can) ?_;rintro _ h3 ⟨hE3,bw,rfl,hbw,hgw⟩;have hWl:=ZFj s.cans kept mv.hour;have hWi:=ZMB (h:=mv.hour) hok.cans.room hm.to;have g33:=hE3.get g3;have hcw:=ZBU hgw (r:=mv.can.toNat) (by omega);generalize hWW:whrS s.cans kept mv.hour=W at *;refine ZBC fun hW3=>?_;refine zy ?_
 by_cases c2:W.getD mv.can.toNat 0=mv.to
 ·have hms:ZEV s kept mv=131:=by unfold ZEV;rw[if_neg c1,hWW,if_pos c2]
  refine ZAL hmix ZVU ZSR (some 8) [([],none)] (by kernel_rfl) (by kernel_rfl) ?_;refine z_m ?_;refine z_f ?_;refine z_l ?_;refine ZAB rfl rfl rfl rfl rfl (fun _=>ZAE (k:=mv.can.toNat) Und.h Tsz.h rfl rfl (by omega) (by omega)) ?_;refine z_l ?_;refine z_f ?_;refine z_l ?_;refine ZAB rfl rfl rfl rfl rfl (fun _=>A_ff (fun q=>q c2) (ZAh rfl rfl)) ?_;refine ZAI ZSR (by kernel_rfl) rfl (ZAA rfl) rfl nb rfl (ZHH rfl rfl rfl rfl rfl Bod.h (ZFV false 131 h3) (fun hb=>nomatch hb) (fun _=>?_));exact hfail rfl hW3 hms (by decide) hE3
 refine ZAL hmix ZVU ZSR (some 8) [([],none)] (by kernel_rfl) (by kernel_rfl) ?_;refine z_m ?_;refine z_f ?_;refine z_l ?_;refine ZAB rfl rfl rfl rfl rfl (fun _=>ZAE (k:=mv.can.toNat) Und.h Tsz.h rfl rfl (by omega) (by omega)) ?_;refine z_l ?_;refine z_f ?_;refine z_l ?_;refine ZAB rfl rfl rfl rfl rfl (fun _=>A_tt c2 (ZAh rfl rfl)) ?_;refine ZAI ZSR (by kernel_rfl) rfl (ZAA rfl) rfl nb rfl (ZAX rfl rfl rfl rfl rfl Bod.h (ZC9 131 h3) ?_);refine ZAO (ZAA rfl) nb' ?_;refine zy ?_;refine zD (ZAE (k:=mv.can.toNat) Und.h Tsz.h rfl rfl (by omega) (by omega)) ?_;refine ZAf (r:=(W.set mv.can.toNat mv.to).map i64) rfl Tsz.h rfl rfl hgw rfl rfl (by rw[Nat.zero_add,Nat.mul_one,<-ZHf];exact ZCH (by rw[List.length_map];omega)) fun h4 hU4=>?_
 have hE24:Ext h2 h4:=hU4.ext hE3 hW2 hbw;have gw4:=hU4.at';have g34:=hE24.get g3;have gV4:=hE24.get gV;have hVV4:=hV2.ext hE24;have hWl2:(W.set mv.can.toNat mv.to).length=s.cans.length:=by rw[List.length_set];exact hWl
 have hWi2:InR s.rooms.length (W.set mv.can.toNat mv.to):=fun r hr=>by
  rcases List.mem_or_eq_of_mem_set hr with q|rfl
  ·exact hWi r q
  ·exact htn
 have hLW:∀{k},Ext h4 k->ZAi i64 k (some ⟨bw,0,none⟩) (W.set mv.can.toNat mv.to):=fun hE j hj=>⟨bw,0,none,rfl,hE.cell (by
  have:=ZBU gw4 (r:=j) hj;rw[List.getD_eq_getElem?_getD,List.getElem?_eq_getElem hj] at this;exact this)⟩
 have hms0:ZEV s kept mv=if (s.cans.getD mv.can.toNat default).base=1/\(s.rooms.getD mv.to.toNat default).allows=false then 132 else if (s.cans.getD mv.can.toNat default).base=1/\(s.rooms.getD mv.to.toNat default).most<(amtS s.rooms.length s.cans (W.set mv.can.toNat mv.to)).getD mv.to.toNat 0 then 133 else if ZMf (amtS s.rooms.length s.cans (W.set mv.can.toNat mv.to)) s.rooms s.steps≠[] then 134 else if mayS (tmS s kept mv.can mv.hour.toNat) (s.rooms.getD mv.to.toNat default)=true then 135 else 0:=by
  unfold ZEV;rw[if_neg c1,hWW,if_neg c2]
 clear hU4 hgw hcw g33 hWW hE3 hW3 hWi hWl;generalize hWZ:W.set mv.can.toNat mv.to=Z at *;have hA1:=fun {k} (hE:Ext h4 k)=>ZIu (cw:=s.cans.length) (hVV4.ext hE) hrl.2 hok.cans (hLW hE) hWi2 hWl2;have hN1:=fun {k} (hE:Ext h4 k)=>ZPW (cw:=s.cans.length) (hVV4.ext hE) hok (hLW hE) hWi2 hWl2;rw[hWl2] at hA1 hN1;have hAl:(amtS s.rooms.length s.cans Z).length=s.rooms.length:=ZDm _ _ _ _;generalize amtS s.rooms.length s.cans Z=A at *;clear hWZ hLW gw4;obtain⟨bc,oc,oac,eac,rowc,hrowc,hxc⟩:=hVV4.s.c mv.can.toNat (by omega);rw[ZAW (show mv.can.toNat<s.cans.length by omega)] at hms0;generalize s.cans[mv.can.toNat]'(by omega)=c at *
 have hxc':rowc=ZCz c:=hxc;subst hxc';replace eac:ac=some ⟨bc,oc,oac⟩:=eac;subst eac;obtain⟨br,oR,oaR,ear,rowr,hrowr,hxr⟩:=hVV4.s.r mv.to.toNat (by omega);have hrt:=hok.rt _ (List.getElem_mem (show mv.to.toNat<s.rooms.length by omega));have hrm:=hok.rm _ (List.getElem_mem (show mv.to.toNat<s.rooms.length by omega));rw[ZAW (show mv.to.toNat<s.rooms.length by omega)] at hms0;generalize s.rooms[mv.to.toNat]'(by omega)=x at *;have hxr':rowr=ZB3 x:=hxr;subst hxr';replace ear:ar=some ⟨br,oR,oaR⟩:=ear;subst ear;have hcb:ZAS h4 bc (oc+mv.can.toNat*4+1)=some (i64 c.base):=ZAK (k:=1) hrowc rfl;refine ZBC fun hW4=>?_
 have hEa:=Ext.add hW4 (.cells [str [],i64 0,i64 0,i64 0,i64 0,.bool false,.bool false,i64 0,i64 0,i64 0] 43 false);refine zy ?_;refine ZAL hmix [0,1,3,7,15,0,32,127,255,0,1023] ZP9 (some 10) [([],none)] (by kernel_rfl) (by kernel_rfl) ?_;refine z_m ?_;refine z_q ?_;refine z_f ?_;refine z_f ?_;refine z_l ?_;refine z_f ?_;refine z_l ?_;refine ZAB rfl rfl rfl rfl rfl (fun _=>ZAE (k:=mv.to.toNat) Und.h Tsz.h rfl rfl (by omega) (by omega)) ?_;refine z_r ?_;refine ZDS (nk:=.ptr) rfl rfl rfl rfl rfl (fun _ _ _=>ZHR Zr.h) ?_;refine ZAI (h1:=(Heap.add h4 _)) ZP9 (by kernel_rfl) rfl (ZAA rfl) rfl rfl rfl (ZAu (ZA1 (r:=ZB3 x) rfl rfl Tsz.h rfl rfl Heap.get_add_same rfl rfl rfl (fun h5 hU5 hW5=>?_)))
 refine ZAO (h1:=h5) (ZAA rfl) rfl ?_;have hE45:Ext h4 h5:=hU5.ext hEa hW4 (Nat.le_refl _);have g75:=hU5.at';have g35:=hE45.get g34;have gV5:=hE45.get gV4;have hcb5:=hE45.cell hcb;clear hEa hU5;refine zy ?_;have hE25:=hE24.trans hE45;have g7a:ZAS h5 h4.nx (0+6)=some (.bool x.allows):=ZAb g75 rfl
 by_cases c3:c.base=1/\x.allows=false
 ·obtain⟨hb,hal⟩:=c3
  have hms:ZEV s kept mv=132:=by rw[hms0,if_pos ⟨hb,hal⟩]
  refine ZAL hmix ZQQ ZUc none [] (by kernel_rfl) (by kernel_rfl) ?_;refine z_m ?_;refine z_q ?_;refine z_f ?_;refine z_f ?_;refine z_l ?_;refine z_f ?_;refine z_l ?_;refine ZAB rfl rfl rfl rfl rfl (fun _=>ZAE (k:=mv.can.toNat) Und.h Tsz.h rfl rfl (by omega) (by omega)) ?_;refine z_f ?_;refine z_l ?_;refine ZAB rfl rfl rfl rfl rfl (fun _=>A_tt hb (ZAg rfl rfl)) ?_;refine ZAO (ZAA rfl) nb' ?_;rw[hal] at g7a;refine zy ?_;refine ZNt rfl rfl rfl rfl rfl Bod.h rfl rfl (ZNY 132 h5) (fun v hx hv=>nomatch hv) (fun v hx hv=>?_);cases hv;exact hfail rfl hW5 hms (by decide) hE25
 rw[if_neg c3] at hms0
 by_cases c4:c.base=1/\x.most<A.getD mv.to.toNat 0
 ·obtain⟨hb,hmo⟩:=c4
  have hal:x.allows=true:=by
   cases hq:x.allows with
   | true=>rfl
   | false=>exact absurd ⟨hb,hq⟩ c3
  have hms:ZEV s kept mv=133:=by rw[hms0,if_pos ⟨hb,hmo⟩]
  refine ZAL hmix ZQQ ZUc none [] (by kernel_rfl) (by kernel_rfl) ?_;refine z_m ?_;refine z_q ?_;refine z_f ?_;refine z_f ?_;refine z_l ?_;refine z_f ?_;refine z_l ?_;refine ZAB rfl rfl rfl rfl rfl (fun _=>ZAE (k:=mv.can.toNat) Und.h Tsz.h rfl rfl (by omega) (by omega)) ?_;refine z_f ?_;refine z_l ?_;refine ZAB rfl rfl rfl rfl rfl (fun _=>A_tt hb (ZAg rfl rfl)) ?_;refine ZAO (ZAA rfl) nb' ?_;rw[hal] at g7a;refine zy ?_;refine zV (ZC9 132 h5) ?_;refine ZAL hmix ZVK [0,1,3,4,7,8] (some 2) [([5,6,9],(some 10)),([],none)] (by kernel_rfl) (by kernel_rfl) ?_;refine z_m ?_;refine z_m ?_;refine z_f ?_;refine z_l ?_;refine z_f ?_;refine z_l ?_
  refine ZAI [0,1] (by kernel_rfl) rfl (ZAA rfl) rfl nb rfl (ZAu (ZBJ rfl rfl rfl rfl rfl Bod.h (hA1 hE45) (fun v6 h6 hv hW6=>?_)));obtain⟨hE6,ba,rfl,hba,hga⟩:=hv;have g36:=hE6.get g35;have g76:=hE6.get g75;have hca:=ZBU hga (r:=mv.to.toNat) (by omega);refine ZAB rfl rfl rfl rfl rfl (fun _=>ZAE (k:=mv.to.toNat) Und.h Tsz.h rfl rfl (by omega) (by omega)) ?_;refine z_l ?_;refine ZAB rfl rfl rfl rfl rfl (fun _=>A_ff (by omega) (ZEL rfl rfl)) ?_;refine ZAI ZP9 (by kernel_rfl) rfl (by refine t_l 8 ?_;refine t_f 7 ?_;refine t_l 4 ?_;refine t_f 3 ?_;exact ZAA rfl) rfl nb rfl (ZHH rfl rfl rfl rfl rfl Bod.h (ZFV false 133 h6) (fun hb=>nomatch hb) (fun _=>?_))
  exact hfail rfl hW6 hms (by decide) (hE25.trans hE6)
 rw[if_neg c4] at hms0;refine ZAL hmix ZQQ ZUc none [] (by kernel_rfl) (by kernel_rfl) ?_;refine z_m ?_;refine z_q ?_;refine z_f ?_;refine z_f ?_;refine z_l ?_;refine z_f ?_;refine z_l ?_;refine ZAB rfl rfl rfl rfl rfl (fun _=>ZAE (k:=mv.can.toNat) Und.h Tsz.h rfl rfl (by omega) (by omega)) ?_;refine z_f ?_;refine z_l ?_;refine ZAB rfl rfl rfl rfl rfl (fun _=>ZAg rfl rfl) ?_;refine ZAO (ZAA rfl) nb' ?_;refine Wc.mono (Q:=fun z m' ds' h'=>z=.normal/\ds'=[.fn 79 [] [.pointer (some ⟨b4,0,none⟩)]]/\Ext h5 h'/\AllK m' [(0,.pointer (some ⟨bv,0,none⟩)),(3,.pointer (some ⟨b3,0,none⟩)),(4,.pointer (some ⟨b4,0,none⟩)),(6,.slice (some ⟨bw,0,none⟩) s.cans.length s.cans.length),(7,.pointer (some ⟨h4.nx,0,none⟩))]) ?_ ?_
 ·by_cases hb:c.base=1
  ·have hal:x.allows=true:=by
    cases hq:x.allows with
    | true=>rfl
    | false=>exact absurd ⟨hb,hq⟩ c3
   have hmo:¬x.most<A.getD mv.to.toNat 0:=fun q=>c4 ⟨hb,q⟩;rw[decide_eq_true hb];rw[hal] at g7a;refine zy ?_;refine zV (ZC9 132 h5) ?_;refine ZAL hmix ZVK [0,1,3,4,7,8] (some 2) [([5,6,9],(some 10)),([],none)] (by kernel_rfl) (by kernel_rfl) ?_;refine z_m ?_;refine z_m ?_;refine z_f ?_;refine z_l ?_;refine z_f ?_;refine z_l ?_;refine ZAI [0,1] (by kernel_rfl) rfl (ZAA rfl) rfl nb rfl (ZAu (ZBJ rfl rfl rfl rfl rfl Bod.h (hA1 hE45) (fun v6 h6 hv hW6=>?_)));obtain⟨hE6,ba,rfl,hba,hga⟩:=hv;have g36:=hE6.get g35;have g76:=hE6.get g75;have hca:=ZBU hga (r:=mv.to.toNat) (by omega);refine ZAB rfl rfl rfl rfl rfl (fun _=>ZAE (k:=mv.to.toNat) Und.h Tsz.h rfl rfl (by omega) (by omega)) ?_;refine z_l ?_;refine ZAB rfl rfl rfl rfl rfl (fun _=>A_tt (by omega) (ZEL rfl rfl)) ?_
   refine ZAI ZP9 (by kernel_rfl) rfl (by refine t_l 8 ?_;refine t_f 7 ?_;refine t_l 4 ?_;refine t_f 3 ?_;exact ZAA rfl) rfl nb rfl (ZAX rfl rfl rfl rfl rfl Bod.h (ZC9 133 h6) ?_);refine ZAO (ZAA rfl) nb' ?_;exact⟨rfl,rfl,hE6,rfl,rfl,rfl,rfl,rfl,trivial⟩
  ·rw[decide_eq_false hb]
   refine zy ?_;exact⟨rfl,rfl,Ext.refl _,rfl,rfl,rfl,rfl,rfl,trivial⟩
 rintro _ m1 _ h6 ⟨rfl,rfl,hE56,hall⟩
 show Wc _ _ _ _ _ _ _
 refine Wc.le (ZBR fun hW6=>?_) (Le.kn hall);clear hall;have hE46:=hE45.trans hE56;have hE26:=hE24.trans hE46;refine zy ?_;refine zR (hN1 hE46) ?_;rintro _ h7 ⟨hE67,an,cn2,rfl⟩;have hE27:=hE26.trans hE67;refine ZBC fun hW7=>?_;refine zy ?_
 by_cases c5:ZMf A s.rooms s.steps=[]
 rotate_left
 ·have hms:ZEV s kept mv=134:=by rw[hms0,if_pos c5]
  refine ZAV rfl rfl rfl rfl (A_ff (by
   have:=List.length_pos_iff.2 c5;omega) (ZAg rfl rfl)) ?_
  refine zy ?_;refine ZNt rfl rfl rfl rfl rfl Bod.h rfl rfl (ZNY 134 h7) (fun v hx hv=>nomatch hv) (fun v hx hv=>?_);cases hv;exact hfail rfl hW7 hms (by decide) hE27
 rw[if_neg (fun q=>q c5)] at hms0;refine zD (A_tt (by rw[c5];rfl) (ZAg rfl rfl)) ?_;refine zU (ZC9 134 h7) ?_;have g37:=(hE26.trans hE67).get g3;have g77:=(hE56.trans hE67).get g75;have gV7:=hE27.get gV;have ht:=ZUY (cn:=mv.can.toNat) (H:=mv.hour.toNat) (hV2.ext hE27) hok hm (by omega) (by have:=hmv.hour;omega);have htr:=ZNK (cn:=mv.can.toNat) hok hm (by omega) mv.hour.toNat;rw[show ((mv.can.toNat:Nat):Int)=mv.can by omega,show ((mv.hour.toNat:Nat):Int)=mv.hour by have:=hmv.hour;omega] at ht;rw[show ((mv.can.toNat:Nat):Int)=mv.can by omega] at htr;generalize tmS s kept mv.can mv.hour.toNat=T at *
 refine zy ?_
 cases hmy:mayS T x with
 | true =>
  have hms:ZEV s kept mv=135:=by rw[hms0,if_pos hmy]
  refine ZAL hmix ZU9 [0,1,2,3,4,6] (some 5) [([],(some 7)),([8],(some 9)),([],none)] (by kernel_rfl) (by kernel_rfl) ?_;refine z_m ?_;refine z_f ?_;refine z_l ?_;refine z_f ?_;refine z_l ?_;refine z_r ?_;refine ZAI [0,1,2,3,4] (by kernel_rfl) rfl (ZAA rfl) rfl nb rfl (ZAu (ZBJ rfl rfl rfl rfl rfl Bod.h ht (fun v8 h8 hv hW8=>?_)));obtain⟨rfl,hE78⟩:=hv;have g78:=hE78.get g77;refine ZAI ZUH (by kernel_rfl) rfl (by refine t_r 6 ?_;exact ZAA rfl) rfl nb rfl (ZAu (ZBJ rfl rfl rfl rfl rfl Bod.h (ZTQ (t:=T) (r:=x) htr.1 (by omega) (by omega) h8) (fun v9 h9 hv hW9=>?_)));obtain⟨ev,hE89⟩:=hv;rw[hmy] at ev
  subst ev;refine z_n ?_;refine ZAI ZUo (by kernel_rfl) rfl (ZAA rfl) rfl nb rfl (ZHH rfl rfl rfl rfl rfl Bod.h (ZFV false 135 h9) (fun hb=>nomatch hb) (fun _=>?_));exact hfail rfl hW9 hms (by decide) (hE27.trans (hE78.trans hE89))
 | false =>
 have hms:ZEV s kept mv=0:=by rw[hms0,if_neg (by rw[hmy];decide)]
 refine ZAL hmix ZU9 [0,1,2,3,4,6] (some 5) [([],(some 7)),([8],(some 9)),([],none)] (by kernel_rfl) (by kernel_rfl) ?_;refine z_m ?_;refine z_f ?_;refine z_l ?_;refine z_f ?_;refine z_l ?_;refine z_r ?_;refine ZAI [0,1,2,3,4] (by kernel_rfl) rfl (ZAA rfl) rfl nb rfl (ZAu (ZBJ rfl rfl rfl rfl rfl Bod.h ht (fun v8 h8 hv hW8=>?_)));obtain⟨rfl,hE78⟩:=hv;have g78:=hE78.get g77;refine ZAI ZUH (by kernel_rfl) rfl (by refine t_r 6 ?_;exact ZAA rfl) rfl nb rfl (ZAu (ZBJ rfl rfl rfl rfl rfl Bod.h (ZTQ (t:=T) (r:=x) htr.1 (by omega) (by omega) h8) (fun v9 h9 hv hW9=>?_)));obtain⟨ev,hE89⟩:=hv;rw[hmy] at ev
 subst ev;refine z_n ?_;refine ZAI ZUo (by kernel_rfl) rfl (ZAA rfl) rfl nb rfl (ZAX rfl rfl rfl rfl rfl Bod.h (ZC9 135 h9) ?_);refine ZAO (ZAA rfl) nb' ?_;have hE29:=hE27.trans (hE78.trans hE89);have hE09:=hE02.trans hE29;have hO9:=hO2'.ext hE29;have hOk:Own h0 h9 ([slI h0 (.slice ak kept.length kept.length) mvT 3 (kept.flatMap ZBW) kept.length,ceI bv (ZLP s ⟨some ⟨br,oR,oaR⟩,cr,some ⟨bc,oc,oac⟩,cc,ast,cst⟩ (.slice ak kept.length kept.length)) vtT false,ceI b4 [i64 0] errT false,ceI b3 (ZBW mv) mvT false]++R):=Own.shufT (l:=[ceI b4 [i64 0] errT false,ceI b3 (ZBW mv) mvT false,slI h0 (.slice ak kept.length kept.length) mvT 3 (kept.flatMap ZBW) kept.length,ceI bv (ZLP s ⟨some ⟨br,oR,oaR⟩,cr,some ⟨bc,oc,oac⟩,cc,ast,cst⟩ (.slice ak kept.length kept.length)) vtT false]) (R:=R) hO9 (ceI 0 [] 0 false) [0,1,2,3] [2,3,0,1] (by decide) rfl
 have g39:h9.get b3=some (.cells (ZBW mv) mvT false):=hO9.p2;have gV9:h9.get bv=some (.cells (ZLP s ⟨some ⟨br,oR,oaR⟩,cr,some ⟨bc,oc,oac⟩,cc,ast,cst⟩ (.slice ak kept.length kept.length)) vtT false):=hOk.p2;have hps:ZBP s kept mv=kept++[mv]:=by unfold ZBP;rw[if_pos hms]
 refine ZBR fun hW9'=>?_;have hEa:Ext h9 (h9.add (.cells (ZBW mv) mvT false)):=Ext.add hW9' _;have g3a:=hEa.get g39;have gVa:=hEa.get gV9;clear hfail hms0 hA1 hN1 htr ht hO9 hO2' hV hVV4 hV2;refine zy ?_;refine ZAL hmix [0,0,2,6,14,0,32,126,255,511,1023] ZUH (some 7) [([8,9],(some 10)),([],none)] (by kernel_rfl) (by kernel_rfl) ?_;refine z_m ?_;refine z_m ?_;refine z_q ?_;refine z_f ?_;refine z_l ?_;refine z_r ?_;refine ZDS (nk:=.sl _ _) rfl rfl rfl rfl rfl (fun _ _ hs=>N_bs hs Und.h Tsz.h Zr.h rfl rfl rfl rfl (ZU8 _ _ _)) ?_;refine ZAI (h1:=(Heap.add h9 _)) [1,2,3,4,5,6] (by kernel_rfl) rfl (ZAA rfl) rfl rfl rfl (ZAu (ZCh (k:=1) (n:=kept.length) (l:=ZBW mv) rfl hw0 (hE09.trans hEa) rfl rfl rfl rfl Und.h inferInstance rfl rfl (hOk.ext hEa) (ZAs Und.h (by intro k;simp) (ZAP Heap.get_add_same rfl)) rfl rfl (by omega) (by omega) (fun v10 h10 hO10 hE10 hw10=>?_)))
 obtain⟨a10,c10,rfl⟩:=ZQV hO10;refine z_q ?_;refine z_f ?_;refine ZAI ZP9 (by kernel_rfl) rfl (by refine t_m 0 ?_;exact ZAA rfl) rfl nb rfl (ZAu (ZHl (r:=ZLP s ⟨some ⟨br,oR,oaR⟩,cr,some ⟨bc,oc,oac⟩,cc,ast,cst⟩ (.slice a10 (kept.length+1) c10)) rfl hw0 hE10 rfl Tsz.h rfl rfl hO10.up2 rfl rfl rfl (fun h11 hO11 hE11 hw11=>?_)));refine ZAO (ZAA rfl) rfl ?_;refine zy ?_;refine ZB6 (r:=[i64 0]) hw0 hE11 rfl Tsz.h rfl rfl hO11.up3 rfl rfl rfl fun h12 hW12 hO12 hE12=>?_;refine zy ?_;refine ZAC (ZKb (rc:=.none) hO12.p1 (fun _=>?_) (fun e q=>(nomatch q)) (.inl rfl));refine ZMn (vs:=[i64 0]) (ZBT rfl (ZJC OneC.h (ZAb hO12.p1 rfl)) rfl) ⟨by rw[hms];rfl,hE12,.slice a10 (kept.length+1) c10,?_⟩
 rw[hps];have hfm:(kept++[mv]).flatMap ZBW=kept.flatMap ZBW++ZBW mv:=by rw[List.flatMap_append,List.flatMap_singleton]
 show Own h0 h12 ([slI h0 _ mvT 3 ((kept++[mv]).flatMap ZBW) (kept++[mv]).length,_]++R)
 rw[hfm,List.length_append];exact (Own.shufT (l:=[ceI b4 [i64 0] errT false,ceI bv (ZLP s ⟨some ⟨br,oR,oaR⟩,cr,some ⟨bc,oc,oac⟩,cc,ast,cst⟩ (.slice a10 (kept.length+1) c10)) vtT false,slI h0 (.slice a10 (kept.length+1) c10) mvT 3 (kept.flatMap ZBW++ZBW mv) (kept.length+1),ceI b3 (ZBW mv) mvT false]) (R:=R) hO12 (ceI 0 [] 0 false) [0,1,2,3] [0,3,2,1] (by decide) rfl).tail.tail
structure ZGW (s:Si)(l:List Mv):Prop where
 site:ZEs s
 len:l.length<=60
 mv:∀m∈l,m.Ok s.cans.length s.rooms.length
theorem ZGW.mvs {s:Si}{l:List Mv}(p:ZGW s l):Mvs s.cans.length s.rooms.length (ZC3 s l):=⟨Nat.le_trans (ZSS s l) p.len,fun m hm=>(p.mv m (ZKS s l m hm)).hour,fun m hm=>(p.mv m (ZKS s l m hm)).can,fun m hm=>(p.mv m (ZKS s l m hm)).to⟩
theorem ZGW.take {s:Si}{l:List Mv}(p:ZGW s l)(k:Nat):ZGW s (l.take k):=⟨p.site,by rw[List.length_take];have:=p.len;omega,fun m hm=>p.mv m (List.mem_of_mem_take hm)⟩
structure ZQ3 (s:Si):Prop where
 r:Len s.rooms
 c:Len s.cans
 st:Len s.steps
 nr:∀x∈s.rooms,Len x.name
 nc:∀x∈s.cans,Len x.name
set_option maxHeartbeats 2000000 in
theorem ZPO {h:Heap}{s:Si}{d:SAd}{l:List Mv}{am:Option Addr}{cm:Nat}(hS:SiAt h s d)(hL:ZQ3 s)(hM:TabA ZBW 3 h am l)(hml:Len l) :
  Sv Tryz.prog 17 [.agg ⟨ZFh s d⟩,.slice am l.length cm] h (RetP fun v h'=>Ext h h'/\((¬ZGW s l/\∃v1 v2 e,v=.tuple ⟨[v1,v2,i64 e]⟩/\e≠0)\/(ZGW s l/\∃bv v2 ak ck,v=.tuple ⟨[.pointer (some ⟨bv,0,none⟩),v2,i64 0]⟩/\VtAt h' bv s d ak ck (ZC3 s l)))):=by
 refine ZA5 fun hw=>?_;obtain⟨ar,cr,ac,cc,ast,cst⟩:=d;refine ZAG Tryz.func17 rfl (by rw[Tryz.ntmps17];rfl) ?_;show Wc Tryz.prog ⟨17,71,none⟩ _ _ _ _ _;refine zy ?_;refine ZAn rfl rfl rfl fun h1 hE1 hW1 hg1 hn1=>?_;generalize h.nx=b1 at hg1 ⊢;refine zy ?_;refine zR (ZRO (hS.ext hE1) hL.r hL.c hL.st hL.nr hL.nc) ?_;rintro _ h2 ⟨hE2,pa,pi,pe,rfl,hpe⟩;have hg2:=hE2.get hg1;replace hE2:=hE1.trans hE2;refine zy ?_;refine zC (ZAh rfl rfl) (fun n1=>?_) (fun n1=>?_)
 ·refine zy ?_
  exact ZAC (ZAD rfl ⟨hE2,.inl ⟨fun q=>n1 (hpe.2 q.site),_,_,_,rfl,n1⟩⟩)
 have hP:=hpe.1 (Decidable.not_not.1 n1);have hok:=hP.ok;refine zy ?_;refine zC (ZA4 rfl rfl) (fun n2=>?_) (fun n2=>?_)
 ·refine zy ?_
  exact ZAC (ZAD rfl ⟨hE2,.inl ⟨fun q=>by have:=q.len;omega,_,_,_,rfl,by decide⟩⟩)
 clear hE1 hg1 n1 hpe hW1;have hrl:=hok.rlen;have hcl:=hok.cans.len;refine ZBC fun hW2=>?_;refine zy ?_;refine ZAN (fun (k:Nat) m ds h'=>ds=[]/\Ext h2 h'/\k<=l.length/\(∀j,(hj:j<l.length)->j<k->l[j].Ok s.cans.length s.rooms.length)/\AllK m [(1,.slice am l.length cm),(2,.pointer (some ⟨b1,0,none⟩)),(5,.slice none 0 0),(25,.slice am l.length cm),(26,i64 l.length),(27,i64 (k:Nat))]) (fun k=>l.length-k) 0 ?_ ?_
 ·exact⟨rfl,Ext.refl _,Nat.zero_le _,(fun j _ hj=>absurd hj (Nat.not_lt_zero _)),rfl,rfl,rfl,rfl,rfl,rfl,trivial⟩
 rintro k m ds h3 ⟨rfl,hE3,hkl,hmo,hall⟩;refine Wc.le (ZBR fun hW3=>?_) (Le.kn hall);clear hall;have hg3:=hE3.get hg2;refine zy ?_;refine zC (ZAU rfl rfl) (fun hlt=>?_) (fun hlt=>?_)
 ·have hk':k<l.length:=by omega
  obtain⟨b,o,oa,eam,row,hrow,hxr⟩:=hM k hk';have hno:∀{q:Prop},(l[k].Ok s.cans.length s.rooms.length->q)->ZGW s l->q:=fun f z=>f (z.mv _ (List.getElem_mem hk'));have hup:l[k].Ok s.cans.length s.rooms.length->∀j,(hj:j<l.length)->j<k+1->l[j].Ok s.cans.length s.rooms.length:=by
   intro z j hj hjk
   rcases Nat.lt_succ_iff_lt_or_eq.1 hjk with q|rfl
   ·exact hmo j hj q
   ·exact z
  clear hmo;generalize l[k]=x at *;have hx':row=ZBW x:=hxr;subst hx';replace eam:am=some ⟨b,o,oa⟩:=eam;subst eam;have hrow2:=(hE2.trans hE3).row hrow;refine zy ?_;refine zD (A_ix Und.h Tsz.h rfl rfl) ?_;refine ZAJ rfl rfl Zr.h Tsz.h rfl (fun _=>rfl) rfl rfl rfl fun h4 hE4 hW4 hg4 hn4=>?_;replace hg3:=hE4.get hg3;replace hE4:=hE3.trans hE4;have hEx:=hE2.trans hE4;refine zy ?_
  by_cases d1:x.hour<0\/2400<x.hour
  ·refine zV (ZAt (decide_eq_true d1) _) ?_
   exact ZAC (ZAD rfl ⟨hEx,.inl ⟨hno fun q=>by have:=q.hour;omega,_,_,_,rfl,by decide⟩⟩)
  refine zV (ZAt (decide_eq_false d1) _) ?_
  by_cases d2:x.can<0\/(s.cans.length:Int)-1<x.can
  ·refine zV (ZAt (decide_eq_true d2) _) ?_
   exact ZAC (ZAD rfl ⟨hEx,.inl ⟨hno fun q=>by have:=q.can;omega,_,_,_,rfl,by decide⟩⟩)
  refine zV (ZAt (decide_eq_false d2) _) ?_
  by_cases d3:x.to<0\/(s.rooms.length:Int)-1<x.to
  ·refine zV (ZAt (decide_eq_true d3) _) ?_
   exact ZAC (ZAD rfl ⟨hEx,.inl ⟨hno fun q=>by have:=q.to;omega,_,_,_,rfl,by decide⟩⟩)
  refine zV (ZAt (decide_eq_false d3) _) ?_;exact⟨k+1,(by show l.length-(k+1)<l.length-k;omega),rfl,hE4,hk',hup ⟨by omega,by omega,by omega⟩,rfl,rfl,rfl,rfl,rfl,rfl,trivial⟩
 have hPP:ZGW s l:=⟨hP,by omega,fun m hm=>by
  obtain⟨j,hj,rfl⟩:=List.getElem_of_mem hm;exact hmo j hj (by omega)⟩
 clear hmo hlt hkl;replace hE3:=hE2.trans hE3;clear hE2 hg2 hW2;have hS3:=hS.ext hE3;refine zy ?_;refine ZAn rfl rfl rfl fun h4 hE4 hW4 hg4 hn4=>?_;have hO4:Own h3 h4 (vtX h3 h3.nx s ⟨ar,cr,ac,cc,ast,cst⟩ (.slice none 0 0) (ZC3 s (l.take 0))++[slI h3 (.slice none 0 0) 30 1 [] 0]):=by
  have hq:=(((Own.nil h3 h3).nilSl 30 1).newCe hW3 (Nat.le_refl _) hE4 hg4 (Nat.le_refl _)).nilSl mvT 3;exact hq
 generalize h3.nx=b8 at hO4 ⊢;clear hg4 hn4;have hlen:=hPP.len;refine zy ?_;refine ZAN (fun (st:Nat×Value) m ds h'=>ds=[]/\Ext h3 h'/\st.1<=l.length/\(∃kv rs,Own h3 h' (vtX h3 b8 s ⟨ar,cr,ac,cc,ast,cst⟩ kv (ZC3 s (l.take st.1))++[slI h3 st.2 30 1 rs st.1]))/\AllK m [(4,.pointer (some ⟨b8,0,none⟩)),(5,st.2),(56,.slice am l.length cm),(57,i64 l.length),(58,i64 (st.1:Nat))]) (fun st=>l.length-st.1) (0,.slice none 0 0) ?_ ?_
 ·exact⟨rfl,hE4,Nat.zero_le _,⟨_,_,hO4⟩,rfl,rfl,rfl,rfl,rfl,trivial⟩
 clear hO4 hE4 hW4;rintro⟨k,v5⟩ m ds h4 ⟨rfl,hE4,hkl,⟨kv,rs,hO4⟩,hall⟩;refine Wc.le (ZBR fun hW4=>?_) (Le.kn hall);clear hall;simp only at hkl hO4 ⊢;refine zy ?_;refine zC (ZAU rfl rfl) (fun hlt=>?_) (fun hlt=>?_);rotate_left
 ·have hkn:k=l.length:=by omega
  subst hkn;rw[List.take_length] at hO4;obtain⟨ak,rfl,hKs,-⟩:=ZAF.rowsAt (enc:=ZBW) (k:=3) (fun _=>rfl) (show ZAF _ _ _ _ _ _ _ from hO4.p1) rfl;refine zy ?_;exact ZAC (ZAD rfl ⟨hE3.trans hE4,.inr ⟨hPP,b8,v5,ak,_,rfl,hO4.p2,hS3.ext hE4,hKs.1⟩⟩)
 have hk':k<l.length:=by omega
 obtain⟨b,o,oa,eam,row,hrow,hxr⟩:=hM k hk';have hxo:=hPP.mv _ (List.getElem_mem hk');have htk:ZC3 s (l.take (k+1))=ZBP s (ZC3 s (l.take k)) l[k]:=by rw[<-ZOU];congr 1;rw[List.take_add_one,List.getElem?_eq_getElem hk'];rfl
 have hmk:=(hPP.take k).mvs;generalize l[k]=x at *;have hx':row=ZBW x:=hxr;subst hx';replace eam:am=some ⟨b,o,oa⟩:=eam;subst eam;have hrow2:=(hE3.trans hE4).row hrow;refine zy ?_;refine zD (A_ix Und.h Tsz.h rfl rfl) ?_;refine ZAJ rfl rfl Zr.h Tsz.h rfl (fun _=>rfl) rfl rfl rfl fun h5 hE5 hW5 hg5 hn5=>?_;have hO5:=hO4.ext hE5;replace hE5:=hE4.trans hE5;refine zy ?_;refine zR (ZUI (R:=[slI h3 v5 30 1 rs k]) hW3 hE5 hS3 hok hmk hxo hO5) ?_;rintro _ h6 ⟨rfl,hE6,kv6,hO6⟩;rw[<-htk] at hO6;generalize ZEV s (ZC3 s (l.take k)) x=e6;refine zy ?_;refine ZBg (cs:=[i64 e6]) rfl rfl Und.h Tsz.h Zr.h rfl rfl rfl rfl rfl fun h7 hE7 hW7 hg7 hn7=>?_
 refine zy ?_;refine ZAo (k:=1) (n:=k) (l:=[i64 e6]) hW3 (hE6.trans hE7) rfl rfl rfl rfl rfl Und.h inferInstance rfl rfl (hO6.ext hE7).up3 (ZAs Und.h (by intro k;simp) (ZAP hg7 rfl)) rfl rfl (by omega) (by omega) fun v8 h8 hW8 hO8 hE8=>?_;refine zy ?_;exact⟨(k+1,v8),(by show l.length-(k+1)<l.length-k;omega),rfl,hE8,hk',⟨kv6,_,hO8.up3.up3⟩,rfl,rfl,rfl,rfl,rfl,trivial⟩
theorem ZSQ {h:Heap}{s:Si}{d:SAd}{l:List Mv}{am:Option Addr}{cm:Nat}(hS:SiAt h s d)(hL:ZQ3 s)(hM:TabA ZBW 3 h am l)(hml:Len l) :
  Sv Tryz.prog 5 [.agg ⟨ZFh s d⟩,.slice am l.length cm] h (RetP fun v h'=>Ext h h'/\((¬ZGW s l/\∃e,v=.tuple ⟨[.slice none 0 0,.slice none 0 0,i64 e]⟩/\e≠0)\/(ZGW s l/\∃v2 ak ck,v=.tuple ⟨[.slice ak (ZC3 s l).length ck,v2,i64 0]⟩/\TabA ZBW 3 h' ak (ZC3 s l)))):=by
 refine ZA5 fun hw=>?_;obtain⟨ar,cr,ac,cc,ast,cst⟩:=d;refine ZAG Tryz.func5 rfl (by rw[Tryz.ntmps5];rfl) ?_;show Wc Tryz.prog ⟨5,23,none⟩ _ _ _ _ _;refine zy ?_;refine ZAn rfl rfl rfl fun h1 hE1 hW1 hg1 hn1=>?_;refine zy ?_;refine zR (ZPO (hS.ext hE1) hL (hM.ext' hE1) hml) ?_;rintro _ h2 ⟨hE2,⟨hn,v1,v2,e,rfl,he⟩|⟨hP,bv,v2,ak,ck,rfl,hV⟩⟩
 ·replace hE2:=hE1.trans hE2
  refine zy ?_;refine zC (ZAh rfl rfl) (fun n1=>?_) (fun n1=>?_)
  ·refine zy ?_
   exact ZAC (ZAD rfl ⟨hE2,.inl ⟨hn,e,rfl,he⟩⟩)
  exact absurd (Decidable.not_not.1 n1) he
 ·replace hE2:=hE1.trans hE2
  have hg:=hV.g;refine zy ?_;refine zD (A_ff (fun q=>q rfl) (ZAh rfl rfl)) ?_;exact ZAC (ZAD rfl ⟨hE2,.inr ⟨hP,v2,ak,ck,rfl,hV.k⟩⟩)
theorem ZO9 {h:Heap}{s:Si}{d:SAd}{l:List Mv}{am:Option Addr}{cm:Nat}{hr:Int}(hS:SiAt h s d)(hL:ZQ3 s)(hM:TabA ZBW 3 h am l)(hml:Len l)(hP:ZGW s l)(h0:0<=hr)(h1:hr<=2400) :
  Sv Tryz.prog 7 [.agg ⟨ZFh s d⟩,.slice am l.length cm,i64 hr] h (RetP fun v h'=>Ext h h'/\∃b,v=.tuple ⟨[.slice (some ⟨b,0,none⟩) s.cans.length s.cans.length,i64 0]⟩/\h'.get b=some (.cells ((whrS s.cans (ZC3 s l) hr).map i64) 3 false)):=by
 refine ZA5 fun hw=>?_;obtain⟨ar,cr,ac,cc,ast,cst⟩:=d;refine ZAG Tryz.func7 rfl (by rw[Tryz.ntmps7];rfl) ?_;show Wc Tryz.prog ⟨7,28,none⟩ _ _ _ _ _;refine zy ?_;refine ZAn rfl rfl rfl fun h1 hE1 hW1 hg1 hn1=>?_;refine zy ?_;refine zR (ZPO (hS.ext hE1) hL (hM.ext' hE1) hml) ?_;rintro _ h2 ⟨hE2,⟨hn,v1,v2,e,rfl,he⟩|⟨_,bv,v2,ak,ck,rfl,hV⟩⟩
 ·exact absurd hP hn
 replace hE2:=hE1.trans hE2;refine zy ?_;refine zD (A_ff (fun q=>q rfl) (ZAh rfl rfl)) ?_;refine zU (ZAt (a:=hr) (lo:=0) (hi:=2400) (decide_eq_false (by omega)) _) ?_;have hm:=hP.mvs;refine zy ?_;refine zR (ZJ6 (hr:=hr) hV hP.site.ok.cans.len hm.len hm.can) ?_;rintro _ h3 ⟨hE3,b,rfl,hn3,hg3⟩;refine zy ?_;exact ZAC (ZAD rfl ⟨hE2.trans hE3,b,rfl,hg3⟩)
end Go.Dw
