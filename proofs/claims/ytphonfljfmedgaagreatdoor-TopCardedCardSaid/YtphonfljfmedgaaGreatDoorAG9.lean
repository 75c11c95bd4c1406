/- U4: contracts: comparing notes. -/
import Derived.Test.YtphonfljfmedgaaGreatDoorAG2
import Derived.Test.YtphonfljfmedgaaGreatDoorAG6
import Derived.Test.YtphonfljfmedgaaGreatDoorAG8
set_option linter.unusedVariables false
set_option linter.unusedSimpArgs false
namespace Go.Dw
open Go Go.Dx Go.Proofs
set_option maxRecDepth 100000
theorem ZRS {a:Option Addr}{cap:Nat}{l:List Int}{h:Heap}(hI:ZIL h a l)(hlen:l.length<9223372036854775807):Sv Tryz.prog 134 [.slice a l.length cap] h (RetP fun v h'=>v=i64 (ZBb l)/\h'=h):=by
 refine ZAF Tryz.func134 rfl (by rw[Tryz.ntmps134];rfl) ?_;show Wc Tryz.prog ⟨134,18,none⟩ _ _ _ _ _;refine zy ?_;refine ZAS (fun (k:Nat) m ds h'=>ds=[]/\h=h'/\k<=l.length/\ZBb l=ZBb (l.drop k)/\AllK m [(3,i64 0),(6,.slice a l.length cap),(7,i64 l.length),(8,i64 (k:Nat))]) (fun k=>l.length-k) 0 ?_ ?_
 ·exact⟨rfl,rfl,Nat.zero_le _,rfl,rfl,rfl,rfl,rfl,trivial⟩
 rintro k m ds h' ⟨rfl,rfl,hk,hf,hall⟩;refine Wc.le ?_ (Le.kn hall);clear hall;refine zy ?_;refine zC (ZAx rfl rfl) (fun hlt=>?_) (fun hlt=>?_)
 ·have hk':k<l.length:=by omega
  obtain⟨f1,f2⟩:=ZKY hk' hf;obtain⟨b,o,oa,rfl,hc⟩:=hI k hk';generalize l[k]=z at *;refine zy ?_;refine zD (A_ix Und.h Tsz.h rfl rfl) ?_
  by_cases hz:z=0
  ·refine zD (A_ff (fun q=>q hz) (ZA3 rfl rfl)) ?_
   exact⟨k+1,(by show l.length-(k+1)<l.length-k;omega),rfl,rfl,hk',f2 hz,rfl,rfl,rfl,rfl,trivial⟩
  ·refine zD (A_tt hz (ZA3 rfl rfl)) ?_
   exact ZAB (ZAC rfl ⟨by rw[f1 hz];rfl,rfl⟩)
 have:k=l.length:=by omega
 subst this;rw[List.drop_length] at hf;refine zy ?_;exact ZAB (ZAC rfl ⟨by rw[hf];rfl,rfl⟩)
theorem ZPd {a:Option Addr}{cap:Nat}{l:List Int}{h:Heap}(hI:ZIL h a l)(hlen:l.length<9223372036854775807):Sv Tryz.prog 89 [.slice a l.length cap] h (RetP fun v h'=>v=i64 (ZBb l)/\h'=h):=by
 refine ZAF Tryz.func89 rfl (by rw[Tryz.ntmps89];rfl) ?_;show Wc Tryz.prog ⟨89,5,none⟩ _ _ _ _ _;refine zy ?_;refine zV (ZRS hI hlen) ?_;exact ZAB (ZAC rfl ⟨rfl,rfl⟩)
noncomputable def cmpN (x y:Nt):Int:=ZBb [x.frm-y.frm,x.til-y.til,x.kind-y.kind,cmpI ltB x.who y.who,x.number-y.number,x.rev-y.rev,x.lo-y.lo,x.hi-y.hi]
theorem ZM9 {z:Int}{l:List Int}:ZBb (z::l)<0 ↔ z<0\/(z=0/\ZBb l<0):=by
 rw[ZBb]
 split <;> omega
theorem ZSG {x y:Nt}:cmpN x y<0 ↔ ltN x y:=by
 unfold cmpN ltN ltNT lexP Nt.tup;have e0:ZBb []=0:=rfl;simp only[ZM9,ZSl,ZOf ZH3,e0,lexP,ltI]
 constructor
 ·rintro (h|⟨h,h2⟩)
  ·exact .inl (by omega)
  refine .inr ⟨by omega,?_⟩
  rcases h2 with h|⟨h,h2⟩
  ·exact .inl (by omega)
  refine .inr ⟨by omega,?_⟩
  rcases h2 with h|⟨h,h2⟩
  ·exact .inl (by omega)
  refine .inr ⟨by omega,?_⟩
  rcases h2 with h|⟨h,h2⟩
  ·exact .inl h
  refine .inr ⟨h,?_⟩
  rcases h2 with h|⟨h,h2⟩
  ·exact .inl (by omega)
  refine .inr ⟨by omega,?_⟩
  rcases h2 with h|⟨h,h2⟩
  ·exact .inl (by omega)
  refine .inr ⟨by omega,?_⟩;omega
 ·rintro (h|⟨h,h2⟩)
  ·exact .inl (by omega)
  refine .inr ⟨by omega,?_⟩
  rcases h2 with h|⟨h,h2⟩
  ·exact .inl (by omega)
  refine .inr ⟨by omega,?_⟩
  rcases h2 with h|⟨h,h2⟩
  ·exact .inl (by omega)
  refine .inr ⟨by omega,?_⟩
  rcases h2 with h|⟨h,h2⟩
  ·exact .inl h
  refine .inr ⟨h,?_⟩
  rcases h2 with h|⟨h,h2⟩
  ·exact .inl (by omega)
  refine .inr ⟨by omega,?_⟩
  rcases h2 with h|⟨h,h2⟩
  ·exact .inl (by omega)
  refine .inr ⟨by omega,?_⟩;omega
theorem ZTg (a b c d e f g k:Int):Instr.fill (fun i=>some (i*1,1)) (rep 8 (Value.cells (i64 0)).toList).toArray [(0,i64 a),(1,i64 b),(2,i64 c),(3,i64 d),(4,i64 e),(5,i64 f),(6,i64 g),(7,i64 k)]=some ⟨[i64 a,i64 b,i64 c,i64 d,i64 e,i64 f,i64 g,i64 k]⟩:=by kernel_rfl
set_option maxHeartbeats 2000000 in
theorem ZQV {x y:Nt}(hx:x.Ok)(hy:y.Ok)(h:Heap):Sv Tryz.prog 58 [.agg ⟨rowN x⟩,.agg ⟨rowN y⟩] h (RetP fun v h'=>v=i64 (cmpN x y)/\Ext h h'):=by
 obtain⟨-,x1,x2,x3,x4,x5,x6,x7,-⟩:=hx;obtain⟨-,y1,y2,y3,y4,y5,y6,y7,-⟩:=hy;refine ZAF Tryz.func58 rfl (by rw[Tryz.ntmps58];rfl) ?_;show Wc Tryz.prog ⟨58,51,none⟩ _ _ _ _ _;refine zy ?_;refine ZAv rfl rfl rfl fun h1 hE1 hW1 hg1 hn1=>?_;refine zy ?_;refine ZAv rfl rfl rfl fun h2 hE2 hW2 hg2 hn2=>?_;have k1:=hE2.get hg1;obtain⟨z1,e1⟩:∃z,z=cmpI ltB x.who y.who:=⟨_,rfl⟩;have c1:=ZON x.who y.who h2;rw[<-e1] at c1;refine zy ?_;refine ZAR hmix [0,1,0,4,15,0,32,0,128,480,0,1024,0,4096,15360,0,32768,0,131072,491520,0,1048576,0,4194304,15728640,0,33554432,0,134217728,503316480,0,1073741824,3221225472,0,8589934592,25769803776,67645734912,0,137438953472,412316860416,0,1099511627776,3298534883328,8658654068736,17592186044415,35184372088831,70368744177663] [0,1,2,3,4,5,6,7,8,9,10,11,12,13,14,15,16,17,18,20,21,22,23,24,25,26,27,28,29,30,31,32,33,34,35,36,37,38,39,40,41,42,43] (some 19) [([44],(some 45)),([],(some 46)),([],none)] (by kernel_rfl) (by kernel_rfl) ?_
 refine z_f ?_;refine z_l ?_;refine z_f ?_;refine z_l ?_;refine z_u ?_;refine z_f ?_;refine z_l ?_;refine z_f ?_;refine z_l ?_;refine z_u ?_;refine z_f ?_;refine z_l ?_;refine z_f ?_;refine z_l ?_;refine z_u ?_;refine z_f ?_;refine z_l ?_;refine z_f ?_;refine z_l ?_;refine z_f ?_;refine z_l ?_;refine z_f ?_;refine z_l ?_;refine z_u ?_;refine z_f ?_;refine z_l ?_;refine z_f ?_;refine z_l ?_;refine z_u ?_;refine z_f ?_;refine z_f ?_;refine z_l ?_;refine z_f ?_;refine z_f ?_;refine z_l ?_;refine z_u ?_;refine z_f ?_;refine z_f ?_;refine z_l ?_;refine z_f ?_;refine z_f ?_;refine z_l ?_;refine z_u ?_
 refine ZAM [15,16,17,18] (by kernel_rfl) rfl (ZAA rfl) rfl nb rfl (ZCV rfl rfl rfl rfl rfl Bod.h c1 ?_);refine ZBS (nk:=.sl _ _) rfl rfl rfl rfl rfl (fun _ _ hs=>N_bs hs Und.h Tsz.h Zr.h rfl rfl rfl rfl (ZTg _ _ _ _ _ _ _ _)) ?_;refine ZAM (h1:=(Heap.add h2 _)) [0,1,2,3,4,5,6,7,8,9,10,11,12,13,14,15,16,17,18,19,20,21,22,23,24,25,26,27,28,29,30,31,32,33,34,35,36,37,38,39,40,41,42,43,44] (by kernel_rfl) rfl (by refine t_u 43 ?_;refine t_l 42 ?_;refine t_f 41 ?_;refine t_f 40 ?_;refine t_l 39 ?_;refine t_f 38 ?_;refine t_f 37 ?_;refine t_u 36 ?_;refine t_l 35 ?_;refine t_f 34 ?_;refine t_f 33 ?_;refine t_l 32 ?_;refine t_f 31 ?_;refine t_f 30 ?_;refine t_u 29 ?_;refine t_l 28 ?_;refine t_f 27 ?_;refine t_l 26 ?_;refine t_f 25 ?_;refine t_u 24 ?_;refine t_l 23 ?_;refine t_f 22 ?_;refine t_l 21 ?_;refine t_f 20 ?_;refine t_u 14 ?_;refine t_l 13 ?_;refine t_f 12 ?_;refine t_l 11 ?_;refine t_f 10 ?_;refine t_u 9 ?_;refine t_l 8 ?_;refine t_f 7 ?_;refine t_l 6 ?_;refine t_f 5 ?_;refine t_u 4 ?_;refine t_l 3 ?_;refine t_f 2 ?_;refine t_l 1 ?_;refine t_f 0 ?_;exact ZAA rfl) rfl rfl rfl (ZCV rfl rfl rfl rfl rfl Bod.h (ZPd (l:=[x.frm-y.frm,x.til-y.til,x.kind-y.kind,z1,x.number-y.number,x.rev-y.rev,x.lo-y.lo,x.hi-y.hi]) (ZQE rfl) (by simp)) ?_)
 refine ZAM (h1:=(Heap.add h2 _)) [0,1,2,3,4,5,6,7,8,9,10,11,12,13,14,15,16,17,18,19,20,21,22,23,24,25,26,27,28,29,30,31,32,33,34,35,36,37,38,39,40,41,42,43,44,45] (by kernel_rfl) rfl (ZAA rfl) rfl rfl rfl (ZBm rfl rfl (ZAY rfl) ?_);refine ZAc (h1:=(Heap.add h2 _)) (ZAA rfl) rfl ?_;refine zy ?_;exact ZAB (ZAC rfl ⟨by unfold cmpN;rw[<-e1];rfl,(hE1.trans hE2).trans (Ext.add hW2 _)⟩)
end Go.Dw
