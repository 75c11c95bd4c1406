/- X1: contracts: the library's stable sort of numbers, part 1: insertion, exchanging ranges. -/
import Derived.Shelf.SortM.Plain
import Derived.Shelf.SortM.SortNone
import Derived.Shelf.SlSortCmp.NoneTotal
import Derived.Test.YtcjmpdpgfmjcgaaGreatDoorMG2
import Derived.Test.YtcjmpdpgfmjcgaaGreatDoorMG15
import Derived.Test.YtcjmpdpgfmjcgaaGreatDoorMG17
namespace Go.Dw
open Go Go.Dx Go.Proofs Go.Sort
set_option maxRecDepth 100000
structure StabK where
 h0:Heap
 b:Nat
 n:Nat
 cap:Nat
 sp:Option Nat
 op:Bool
 g:FuncId
 fc:List Value
 cc:List Value
 less:Int->Int->Bool
 D:Int->Prop
structure StabK.OK (k:StabK):Prop where
 bd:bodied Tryz.prog k.g=true
 sm:k.n<=1000000
 cmp:∀h1,Exb (fun c=>c=k.b) k.h0 h1->∀x y,k.D x->k.D y->Sv Tryz.prog k.g (k.fc++([i64 x,i64 y]++k.cc)) h1 (RetP fun v h'=>∃c,v=i64 c/\(c<0 ↔ k.less x y=true)/\Ext h1 h')
structure StabK.St (k:StabK)(d:Array Int)(h:Heap):Prop where
 ex:Exb (fun c=>c=k.b) k.h0 h
 gt:h.get k.b=some (.cells (d.toList.map i64) 3 k.op)
 sz:d.size=k.n
 dom:∀i,i<k.n->k.D d[i]!
abbrev StabK.v (k:StabK):Value:=.slice (some ⟨k.b,0,k.sp⟩) k.n k.cap
abbrev StabK.f (k:StabK):Value:=.func (.func k.g) ⟨k.fc⟩ ⟨k.cc⟩
section
variable {k:StabK}{d:Array Int}{h h1 h2:Heap}{i j:Nat}
theorem StabK.St.cell (s:k.St d h)(hi:i<k.n):cellAt h k.b (0+i*1)=some (i64 d[i]!):=by
 refine cellAt_cells s.gt ?_
 have hi':i<d.size:=by rw[s.sz];exact hi
 rw[nth_eq,Nat.zero_add,Nat.mul_one,List.getElem?_map,Array.getElem?_toList,getElem!_pos d i hi',Array.getElem?_eq_getElem hi']
 rfl
theorem StabK.St.ext (s:k.St d h)(he:Ext h h1):k.St d h1:=⟨s.ex.trans (Exb.of he),he.get s.gt,s.sz,s.dom⟩
theorem StabK.St.swp (s:k.St d h)(hi:i<k.n)(hj:j<k.n)(hU1:Upd h k.b (.cells ((d.toList.map i64).set i (i64 d[j]!)) 3 k.op) h1)(hU2:Upd h1 k.b (.cells (((d.toList.map i64).set i (i64 d[j]!)).set j (i64 d[i]!)) 3 k.op) h2):k.St (Go.Sort.swp d i j) h2:=by
 refine⟨(s.ex.trans (Exb.ofUpd hU1)).trans (Exb.ofUpd hU2),?_,by rw[size_swp];exact s.sz,fun t ht=>?_⟩
 ·rw[hU2.at']
  congr 2
  unfold Go.Sort.swp
  simp only[Array.toList_setIfInBounds,List.map_set]
 ·rw[swp_get d (by rw[s.sz];exact hi) (by rw[s.sz];exact hj)]
  split
  ·exact s.dom _ hi
  ·split
   ·exact s.dom _ hj
   ·exact s.dom _ ht
end
set_option maxHeartbeats 4000000 in
theorem swapRange_sv {k:StabK}(hk:k.OK){d:Array Int}{h:Heap}{a b n:Nat}(hs:k.St d h)(hab:a+n<=b)(hb:b+n<=k.n) :
  Sv Tryz.prog 236 [k.v,i64 a,i64 b,i64 n,k.f] h (RetP fun v h'=>v=.tuple ⟨[]⟩/\∃d',Swr a b n d d'/\k.St d' h'):=by
 have hsm:=hk.sm
 refine Sv_enter Tryz.func236 rfl (by rw[Tryz.ntmps236];rfl) ?_;show Wc Tryz.prog ⟨236,38,none⟩ _ _ _ _ _
 refine zz ?_
 refine Wc_loop (fun (i:Nat) m ds h'=>ds=[]/\i<=n/\∃d',Swr a b i d d'/\k.St d' h'/\AllK m [(0,k.v),(1,i64 a),(2,i64 b),(3,i64 n),(10,i64 i)]) (fun i=>n-i) 0 ?_ ?_
 ·exact⟨rfl,Nat.zero_le _,d,swr_zero _ _ _,hs,rfl,rfl,rfl,rfl,rfl,trivial⟩
 clear hs
 rintro i m ds h1 ⟨rfl,hi,d1,hS,hs,hall⟩
 refine Wc.le ?_ (Le.kn hall)
 refine zz ?_
 refine Wo_dec rfl rfl rfl rfl (A_lss rfl rfl) (fun hip=>?_) (fun hip=>?_)
 rotate_left
 ·have:i=n:=by omega
  subst this
  refine zz ?_
  exact Lv_normal rfl ⟨rfl,d1,hS,hs⟩
 have hi':i<n:=by omega
 have hc1:=hs.cell (i:=a+i) (by omega)
 have hc2:=hs.cell (i:=b+i) (by omega)
 have hg:=hs.gt
 refine zz ?_
 refine Wc_draw hmix [0,0,0,6,0,0,0,96,0,0,0,1536,3840,7936,0,0,0,98304,245760,507904,1048335,2096911,4194303,8388607] [0,1,2,3,4,5,6,7,8,9,10,11,12,13,14,15,16,17,18,19,20] (some 21) [([22],(some 23)),([],none)] (by kernel_rfl) (by kernel_rfl) ?_
 refine z_m ?_;refine z_m ?_;refine z_m ?_;refine z_y ?_;refine z_m ?_;refine z_m ?_;refine z_m ?_;refine z_y ?_;refine z_m ?_;refine z_m ?_;refine z_m ?_;refine z_y ?_;refine Wp_pure rfl rfl rfl rfl rfl (fun _=>A_indexAddr (k:=b+i) (z:=((b:Nat):Int)+(i:Nat)) Und.h Tsz.h rfl rfl (by omega) (by omega)) ?_;refine z_l ?_;refine z_m ?_;refine z_m ?_;refine z_m ?_;refine z_y ?_;refine Wp_pure rfl rfl rfl rfl rfl (fun _=>A_indexAddr (k:=a+i) (z:=((a:Nat):Int)+(i:Nat)) Und.h Tsz.h rfl rfl (by omega) (by omega)) ?_;refine z_l ?_;refine Wp_pure rfl rfl rfl rfl rfl (fun _=>A_indexAddr (k:=a+i) (z:=((a:Nat):Int)+(i:Nat)) Und.h Tsz.h rfl rfl (by omega) (by omega)) ?_
 refine Wp_eff [0,1,2,3,8,9,10,11,12,13,14,15,16,17,18,19,20] (by kernel_rfl) rfl (Stl_nil rfl) rfl nb rfl (W1_store rfl rfl Tsz.h rfl rfl hg rfl rfl (lay_one (by have:=hs.sz;simp;omega)) (fun h2 hU2=>?_))
 refine Wp_pure rfl rfl rfl rfl rfl (fun _=>A_indexAddr (k:=b+i) (z:=((b:Nat):Int)+(i:Nat)) Und.h Tsz.h rfl rfl (by omega) (by omega)) ?_
 refine Wp_eff [0,1,2,3,4,5,6,7,8,9,10,11,12,13,14,15,16,17,18,19,20,21,22] (by kernel_rfl) rfl (by refine t_y 7 ?_;refine t_m 6 ?_;refine t_m 5 ?_;refine t_m 4 ?_;exact Stl_nil rfl) rfl nb rfl (W1_store rfl rfl Tsz.h rfl rfl hU2.at' rfl rfl (lay_one (by have:=hs.sz;simp;omega)) (fun h3 hU3=>?_))
 refine Wp_end (Stl_nil rfl) nb' ?_
 have hsz:=hs.sz
 have hs3:=hs.swp (i:=a+i) (j:=b+i) (by omega) (by omega) (by simpa using hU2) (by simpa using hU3)
 refine zz ?_
 exact⟨i+1,(by show n-(i+1)<n-i;omega),rfl,hi',_,swr_succ hS (by omega) (by rw[<-hS.size,hs.sz];omega),hs3,rfl,rfl,rfl,rfl,rfl,trivial⟩
end Go.Dw
/- X2: contracts: the library's stable sort of numbers, part 2: rotations, insertion. -/
namespace Go.Dw
open Go Go.Dx Go.Proofs Go.Sort
set_option maxRecDepth 100000
theorem swapRange_sv' {k:StabK}(hk:k.OK){d:Array Int}{h:Heap}{a b n:Nat}{x y z:Int}(hx:x=a)(hy:y=b)(hz:z=n)(hs:k.St d h)(hab:a+n<=b)(hb:b+n<=k.n) :
  Sv Tryz.prog 236 [k.v,i64 x,i64 y,i64 z,k.f] h (RetP fun v h'=>v=.tuple ⟨[]⟩/\∃d',Swr a b n d d'/\k.St d' h'):=by
 subst hx hy hz;exact swapRange_sv hk hs hab hb
theorem rotate_sv {k:StabK}(hk:k.OK){d:Array Int}{h:Heap}{a m b:Nat}{x y z:Int}(hx:x=a)(hy:y=m)(hz:z=b)(hs:k.St d h)(ham:a<m)(hmb:m<b)(hb:b<=k.n) :
  Sv Tryz.prog 229 [k.v,i64 x,i64 y,i64 z,k.f] h (RetP fun v h'=>v=.tuple ⟨[]⟩/\∃d',Rot a m b d d'/\k.St d' h'):=by
 have hsm:=hk.sm
 subst hx hy hz
 refine Sv_enter Tryz.func229 rfl (by rw[Tryz.ntmps229];rfl) ?_;show Wc Tryz.prog ⟨229,58,none⟩ _ _ _ _ _
 refine zz ?_
 refine Wc_loop (fun (s:Nat×Nat) me ds h'=>ds=[]/\a<=s.1/\s.1<m/\m<s.2/\s.2<=b/\∃(d1:Array Int) (x y:Int),x=(m:Int)-s.1/\y=(s.2:Int)-m/\(∀d2,Rot s.1 m s.2 d1 d2->Rot a m b d d2)/\k.St d1 h'/\AllK me [(0,k.v),(1,i64 a),(2,i64 m),(3,i64 b),(4,k.f),(10,i64 x),(11,i64 y)]) (fun s=>s.2-s.1) (a,b) ?_ ?_
 ·exact⟨rfl,Nat.le_refl _,ham,hmb,Nat.le_refl _,d,_,_,rfl,rfl,fun _ h=>h,hs,rfl,rfl,rfl,rfl,rfl,rfl,rfl,trivial⟩
 clear hs
 rintro⟨a',b'⟩ me ds h1 ⟨rfl,ha,ham',hmb',hb',d1,x,y,hx,hy,hR,hs,hall⟩
 simp only at ha ham' hmb' hb' hx hy hR
 refine Wc.le ?_ (Le.kn hall)
 have hsz:=hs.sz
 refine zz ?_
 refine Wo_dec rfl rfl rfl rfl (A_neq rfl rfl) (fun hne=>?_) (fun hne=>?_)
 rotate_left
 ·have hne:x=y:=Classical.not_not.1 hne
  refine zz ?_
  refine Wo_callr rfl rfl rfl rfl rfl Bod.h rfl rfl (swapRange_sv' hk (a:=a') (b:=m) (n:=m-a') (by omega) rfl (by omega) hs (by omega) (by omega)) ?_
  rintro _ h2 ⟨rfl,d2,hS2,hs2⟩
  refine zz ?_
  exact Lv_normal rfl ⟨rfl,d2,hR _ (rot_end (by omega) (by omega) (by omega) hS2),hs2⟩
 refine zz ?_
 refine Wo_dec rfl rfl rfl rfl (A_gtr rfl rfl) (fun hgt=>?_) (fun hgt=>?_)
 ·refine zz ?_
  refine Wo_callr rfl rfl rfl rfl rfl Bod.h rfl rfl (swapRange_sv' hk (a:=a') (b:=m) (n:=b'-m) (by omega) rfl (by omega) hs (by omega) (by omega)) ?_
  rintro _ h2 ⟨rfl,d2,hS2,hs2⟩
  refine zz ?_
  exact⟨(a'+(b'-m),b'),(by show b'-(a'+(b'-m))<b'-a';omega),rfl,(by show a<=a'+(b'-m);omega),(by show a'+(b'-m)<m;omega),hmb',hb',d2,_,_,(by show x-y=(m:Int)-((a'+(b'-m):Nat):Int);omega),hy,(fun d3 h3=>hR _ (rot_left rfl (by omega) (by omega) (by omega) hS2 h3)),hs2,rfl,rfl,rfl,rfl,rfl,rfl,rfl,trivial⟩
 ·refine zz ?_
  refine Wo_callr rfl rfl rfl rfl rfl Bod.h rfl rfl (swapRange_sv' hk (a:=a') (b:=b'-(m-a')) (n:=m-a') (by omega) (by omega) (by omega) hs (by omega) (by omega)) ?_
  rintro _ h2 ⟨rfl,d2,hS2,hs2⟩
  refine zz ?_
  exact⟨(a',b'-(m-a')),(by show b'-(m-a')-a'<b'-a';omega),rfl,ha,ham',(by show m<b'-(m-a');omega),(by show b'-(m-a')<=b;omega),d2,_,_,hx,(by show y-x=((b'-(m-a'):Nat):Int)-m;omega),(fun d3 h3=>hR _ (rot_right rfl (by omega) (by omega) (by omega) hS2 h3)),hs2,rfl,rfl,rfl,rfl,rfl,rfl,rfl,trivial⟩
end Go.Dw
/- X3: contracts: the library's stable sort of numbers, part 3: insertion. -/
namespace Go.Dw
open Go Go.Dx Go.Proofs Go.Sort
set_option maxRecDepth 100000
theorem insInner_stop {less:Int->Int->Bool}{a j:Nat}{d:Array Int}(h:¬(j > a/\less d[j]! d[j-1]! = true)):insInner less a j d=d:=by
 cases j with
 | zero=>unfold insInner;rfl
 | succ j =>
  unfold insInner
  rw[if_neg]
  simp only[Bool.and_eq_true,decide_eq_true_eq]
  exact h
theorem insInner_go {less:Int->Int->Bool}{a j:Nat}{d:Array Int}(h1:j > a)(h2:less d[j]! d[j-1]! = true):insInner less a j d=insInner less a (j-1) (swp d j (j-1)):=by
 cases j with
 | zero=>omega
 | succ j =>
  conv=>lhs;unfold insInner
  rw[if_pos]
  ·rfl
  ·simp only[Bool.and_eq_true,decide_eq_true_eq]
   exact⟨h1,h2⟩
set_option maxHeartbeats 4000000 in
theorem insertion_sv {k:StabK}(hk:k.OK){d:Array Int}{h:Heap}{a b:Nat}{x y:Int}(hx:x=a)(hy:y=b)(hs:k.St d h)(hab:a<=b)(hb:b<=k.n) :
  Sv Tryz.prog 207 [k.v,i64 x,i64 y,k.f] h (RetP fun v h'=>v=.tuple ⟨[]⟩/\k.St (insertionSort k.less d a b) h'):=by
 have hsm:=hk.sm
 subst hx hy
 refine Sv_enter Tryz.func207 rfl (by rw[Tryz.ntmps207];rfl) ?_;show Wc Tryz.prog ⟨207,53,none⟩ _ _ _ _ _
 refine zz ?_
 refine Wc_loop (fun (i:Nat) me ds h'=>ds=[]/\a+1<=i/\i<=b+1/\∃(d1:Array Int),insOuter k.less a b i d1=insertionSort k.less d a b/\k.St d1 h'/\AllK me [(0,k.v),(1,i64 a),(2,i64 b),(3,k.f),(8,i64 i)]) (fun i=>b+1-i) (a+1) ?_ ?_
 ·exact⟨rfl,Nat.le_refl _,by omega,d,rfl,hs,rfl,rfl,rfl,rfl,rfl,trivial⟩
 clear hs
 rintro i me ds h1 ⟨rfl,hi0,hi1,d1,hD,hs,hall⟩
 refine Wc.le ?_ (Le.kn hall)
 refine zz ?_
 refine Wo_dec rfl rfl rfl rfl (A_lss rfl rfl) (fun hip=>?_) (fun hip=>?_)
 rotate_left
 ·have hD':d1=insertionSort k.less d a b:=by
   rw[<-hD]
   unfold insOuter
   rw[if_neg (by omega)]
  refine zz ?_
  exact Lv_normal rfl ⟨rfl,by rw[<-hD'];exact hs⟩
 have hi':i<b:=by omega
 refine zz ?_
 refine Wc_loop (fun (j:Nat) me ds h'=>ds=[]/\a<=j/\j<=i/\∃(d2:Array Int),insInner k.less a j d2=insInner k.less a i d1/\k.St d2 h'/\AllK me [(0,k.v),(1,i64 a),(2,i64 b),(3,k.f),(8,i64 i),(9,i64 j)]) (fun j=>j) i ?_ ?_
 ·exact⟨rfl,by omega,Nat.le_refl _,d1,rfl,hs,rfl,rfl,rfl,rfl,rfl,rfl,trivial⟩
 clear hs hall
 clear h1 me
 rintro j me ds h1 ⟨rfl,hj0,hj1,d2,hI,hs,hall⟩
 have hsz:=hs.sz
 have hout:insInner k.less a j d2=d2->insOuter k.less a b (i+1) d2=insertionSort k.less d a b:=fun e=>by
  rw[<-hD]
  conv=>rhs;unfold insOuter
  rw[if_pos hi',<-hI,e]
 refine Wc.le ?_ (Le.kn hall)
 by_cases hja:j > a
 rotate_left
 ·refine zz ?_
  refine Wc_draw hmix [0,0,3,7,15,15,15,111,239,15,15,1039,3599,7695,16383,32767,65535] [0,1,2,3,4,5,6,7,8,9,10,11,12,13] (some 14) [([15,16],none)] (by kernel_rfl) (by kernel_rfl) ?_
  refine z_m ?_;refine z_m ?_;refine Wp_pure rfl rfl rfl rfl rfl (fun _=>A_ff (by omega) (A_gtr rfl rfl)) ?_;refine z_m ?_;refine z_o ?_;refine z_o ?_;refine z_o ?_;refine z_o ?_;refine z_o ?_;refine z_o ?_;refine z_o ?_;refine z_o ?_;refine z_o ?_;refine z_o ?_
  refine Wp_eff [0,1,2,3,4,5,6,7,8,9,10,11,12,13] (by kernel_rfl) rfl (Stl_nil rfl) rfl nb rfl (W1_off rfl ?_)
  refine z_o ?_;refine z_p ?_
  refine Wp_end (Stl_nil rfl) nb' ?_
  refine zz ?_
  exact⟨i+1,(by show b+1-(i+1)<b+1-i;omega),rfl,(by show a+1<=i+1;omega),(by show i+1<=b+1;omega),d2,hout (insInner_stop fun g=>hja g.1),hs,rfl,rfl,rfl,rfl,rfl,trivial⟩
 have hc1:=hs.cell (i:=j) (by omega)
 have hc2:=hs.cell (i:=j-1) (by omega)
 have hcm:=hk.cmp h1 hs.ex d2[j]! d2[j-1]! (hs.dom _ (by omega)) (hs.dom _ (by omega))
 refine zz ?_
 refine Wc_draw hmix [0,0,3,7,15,15,15,111,239,15,15,1039,3599,7695,16383,32767,65535] [0,1,2,3,4,5,6,7,8,9,10,11,12,13] (some 14) [([15,16],none)] (by kernel_rfl) (by kernel_rfl) ?_
 refine z_m ?_;refine z_m ?_;refine Wp_pure rfl rfl rfl rfl rfl (fun _=>A_tt (by omega) (A_gtr rfl rfl)) ?_;refine z_m ?_;refine g_m ?_;refine g_m ?_;refine g_m ?_;refine g_i ?_;refine g_l ?_;refine g_m ?_;refine g_m ?_;refine g_u ?_
 first|refine Wp_off rfl rfl rfl rfl ?_|refine Wp_pure rfl rfl rfl rfl rfl (fun _=>A_indexAddr (k:=j-1) (z:=((j:Nat):Int)-1) Und.h Tsz.h rfl rfl (by omega) (by omega)) ?_
 refine g_l ?_
 refine Wp_eff [0,1,2,3,4,5,6,7,8,9,10,11,12,13] (by kernel_rfl) rfl (Stl_nil rfl) rfl nb rfl (W1_call rfl rfl rfl rfl rfl hk.bd hcm (fun v5 h5 hv=>?_) (fun _ _ hR=>hR.elim))
 obtain⟨c,rfl,hcl,hE5⟩:=hv
 replace hs:=hs.ext hE5
 refine Wp_dec rfl rfl rfl rfl rfl (fun _=>A_lss rfl rfl) (fun hcc=>?_) (fun hcc=>?_)
 ·refine z_p ?_
  refine Wp_end (Stl_nil rfl) nb' ?_
  have hg:=hs.gt
  have hcj1:=hs.cell (i:=j) (by omega)
  have hcj2:=hs.cell (i:=j-1) (by omega)
  refine zz ?_
  refine Wc_draw hmix [0,0,0,0,8,0,0,64,224,480,0,0,3072,7168,16355,32739,65535,131071] [0,1,2,3,4,5,6,7,8,9,10,11,12,13,14] (some 15) [([16],(some 17)),([],none)] (by kernel_rfl) (by kernel_rfl) ?_
  refine z_m ?_;refine z_m ?_;refine z_m ?_;refine z_m ?_;refine z_u ?_;refine z_m ?_;refine z_m ?_;refine z_u ?_;refine Wp_pure rfl rfl rfl rfl rfl (fun _=>A_indexAddr (k:=j-1) (z:=((j:Nat):Int)-1) Und.h Tsz.h rfl rfl (by omega) (by omega)) ?_;refine z_l ?_;refine z_m ?_;refine z_m ?_;refine z_i ?_;refine z_l ?_;refine z_i ?_
  refine Wp_eff [0,1,5,6,7,8,9,10,11,12,13,14] (by kernel_rfl) rfl (Stl_nil rfl) rfl nb rfl (W1_store rfl rfl Tsz.h rfl rfl hg rfl rfl (lay_one (by simp;omega)) (fun h2 hU2=>?_))
  refine Wp_pure rfl rfl rfl rfl rfl (fun _=>A_indexAddr (k:=j-1) (z:=((j:Nat):Int)-1) Und.h Tsz.h rfl rfl (by omega) (by omega)) ?_
  refine Wp_eff [0,1,2,3,4,5,6,7,8,9,10,11,12,13,14,15,16] (by kernel_rfl) rfl (by refine t_u 4 ?_;refine t_m 3 ?_;refine t_m 2 ?_;exact Stl_nil rfl) rfl nb rfl (W1_store rfl rfl Tsz.h rfl rfl hU2.at' rfl rfl (lay_one (by simp;omega)) (fun h3 hU3=>?_))
  refine Wp_end (Stl_nil rfl) nb' ?_
  have hs3:=hs.swp (i:=j) (j:=j-1) (by omega) (by omega) (by simpa using hU2) (by simpa using hU3)
  refine zz ?_
  refine⟨j-1,(by show j-1<j;omega),rfl,(by show a<=j-1;omega),(by show j-1<=i;omega),_,(insInner_go hja (hcl.1 hcc)).symm.trans hI,hs3,rfl,rfl,rfl,rfl,rfl,?_,trivial⟩
  show some (Value.int .i64 (((j:Nat):Int)-1))=some (i64 ((j-1:Nat):Int))
  congr 2
  omega
 ·refine z_p ?_
  refine Wp_end (Stl_nil rfl) nb' ?_
  refine zz ?_
  exact⟨i+1,(by show b+1-(i+1)<b+1-i;omega),rfl,(by show a+1<=i+1;omega),(by show i+1<=b+1;omega),d2,hout (insInner_stop fun g=>hcc (hcl.2 g.2)),hs,rfl,rfl,rfl,rfl,rfl,trivial⟩
end Go.Dw
/- X4: contracts: the library's stable sort of numbers, part 4: merging in place. -/
namespace Go.Dw
open Go Go.Dx Go.Proofs Go.Sort
set_option maxRecDepth 100000
section
variable {P:Program}{m:Mem}{h:Heap}{d:Option Tmp}{ty:TypeId}{pos:String}{af:Array Edge}{gu:Option (Nat×Bool)}
theorem A_convV {a b:TypeId}{x:Operand}{k k':IntKind}{n z:Int}(ha:∃dd,P.underlying a=some dd)(hb:P.underlying b=some (.int k'))(hx:opk h m x=some (.int k n))(hv:k'.wrap n=z):Aop P ⟨d,.convert a b x,ty,pos,af,gu⟩ m h (.int k' z) h:=hv ▸ A_conv ha hb hx
theorem A_shrV {t tz:TypeId}{x y:Operand}{k k':IntKind}{a b z:Int}(hx:opk h m x=some (.int k a))(hy:opk h m y=some (.int k' b))(hb:0<=b)(hv:a.fdiv (2 ^ (min b.toNat k.bits))=z):Aop P ⟨d,.binOp .shr t x y tz,ty,pos,af,gu⟩ m h (.int k z) h:=hv ▸ A_shr hx hy hb
end
theorem cv1 {i j:Nat}(h:i+j<4000000):IntKind.u64.wrap ((i:Int)+(j:Int))=((i+j:Nat):Int):=by
 simp[IntKind.wrap,IntKind.bits,IntKind.signed];omega
theorem cv2 {i j:Nat}:(((i+j:Nat):Int)).fdiv (2 ^ (min (1:Int).toNat IntKind.u64.bits))=(((i+j) / 2:Nat):Int):=by
 have:(2:Int) ^ (min (1:Int).toNat IntKind.u64.bits)=2:=by decide
 rw[this,Int.fdiv_eq_ediv_of_nonneg _ (by omega)]
 omega
theorem cv3 {i j:Nat}(h:i+j<4000000):IntKind.i64.wrap (((i+j) / 2:Nat):Int)=(((i+j) / 2:Nat):Int):=by
 have h2:(i+j) / 2<4000000:=by omega
 generalize (i+j) / 2=q at *
 simp[IntKind.wrap,IntKind.bits,IntKind.signed];omega
theorem rot_up {a k:Nat}{d d1:Array Int}(h:Rot a (a+1) (k+1) d d1)(hak:a<=k)(hk:k+1<d.size):Rot a (a+1) (k+2) d (Go.Sort.swp d1 k (k+1)):=by
 have hs:=h.size
 refine⟨by rw[size_swp];exact hs,fun i hi=>?_,fun i hi=>?_,fun i hi=>?_⟩
 ·rw[swp_get d1 (by omega) (by omega),if_neg (by omega),if_neg (by omega)];exact h.same i (by omega)
 ·rw[swp_get d1 (by omega) (by omega)]
  by_cases e:a+i=k
  ·rw[if_neg (by omega),if_pos e,h.same (k+1) (by omega)];congr 1;omega
  ·rw[if_neg (by omega),if_neg e];exact h.fst i (by omega)
 ·have:i=0:=by omega
  subst this
  rw[swp_get d1 (by omega) (by omega),if_pos (by omega)]
  have:=h.snd 0 (by omega)
  rw[<-this];congr 1;omega
theorem rot_down {m k:Nat}{d d1:Array Int}(h:Rot (k+1) m (m+1) d d1)(hkm:k<m)(hk:m<d.size):Rot k m (m+1) d (Go.Sort.swp d1 (k+1) k):=by
 have hs:=h.size
 refine⟨by rw[size_swp];exact hs,fun i hi=>?_,fun i hi=>?_,fun i hi=>?_⟩
 ·rw[swp_get d1 (by omega) (by omega),if_neg (by omega),if_neg (by omega)];exact h.same i (by omega)
 ·have:i=0:=by omega
  subst this
  rw[swp_get d1 (by omega) (by omega),if_pos (by omega)]
  have:=h.fst 0 (by omega)
  rw[<-this]
 ·rw[swp_get d1 (by omega) (by omega)]
  by_cases e:i=0
  ·subst e
   rw[if_neg (by omega),if_pos (by omega),h.same k (by omega)];congr 1
  ·rw[if_neg (by omega),if_neg (by omega)]
   have:=h.snd (i-1) (by omega)
   rw[show k+1+(m+1-m)+(i-1)=k+(m+1-m)+i by omega,show k+1+(i-1)=k+i by omega] at this
   exact this
set_option maxHeartbeats 16000000 in
theorem symMerge_sv {k:StabK}(hk:k.OK){lt:Int->Int->Bool}(hW:SWO lt):∀(N:Nat){d:Array Int}{h:Heap}{a m b:Nat}{x y z:Int},b-a=N->x=a->y=m->z=b->k.St d h->a<m->m<b->b<=k.n->Agree k.less lt a m b d->SortedIn lt a m d->SortedIn lt m b d →
  Sv Tryz.prog 208 [k.v,i64 x,i64 y,i64 z,k.f] h (RetP fun v h'=>v=.tuple ⟨[]⟩/\∃d',Merged lt a b d d'/\k.St d' h'):=by
 have hsm:=hk.sm
 intro N
 induction N using Nat.strongRecOn with
 | ind N ih0 =>
 have ih:∀M,M<N->∀{d:Array Int} {h:Heap} {a mm b:Nat} {x y z:Int},b-a=M->x=a->y=mm->z=b->k.St d h->a<mm->mm<b->b<=k.n->Agree k.less lt a mm b d->SortedIn lt a mm d->SortedIn lt mm b d →
   Sv Tryz.prog 208 [k.v,i64 x,i64 y,i64 z,k.f] h (RetP fun v h'=>v=.tuple ⟨[]⟩/\∃d',Merged lt a b d d'/\k.St d' h'):=fun M hM=>ih0 M hM
 clear ih0
 intro d h a m b x y z hN hx hy hz hs ham hmb hbn hA hL hR
 subst hx hy hz
 have hsz:=hs.sz
 have hno:∀x y z,lt x y=false->lt y z=false->lt x z=false:=hW.ntrans
 have up1:∀q,m<=q->q<b->k.less d[q]! d[a]! = true->∀c,m<=c->c<=q->k.less d[c]! d[a]! = true:=fun q h1 h2 h3 c h4 h5=>by
  rw[hA a q (Nat.le_refl _) ham h1 h2] at h3
  rw[hA a c (Nat.le_refl _) ham h4 (by omega)]
  by_cases e:c=q
  ·rw[e];exact h3
  ·cases hq:lt d[c]! d[a]! with
   | true=>rfl
   | false=>rw[hno _ _ _ (hR c q h4 (by omega) h2) hq] at h3;cases h3
 have dn1:∀q,m<=q->q<b->k.less d[q]! d[a]! = false->∀c,q<=c->c<b->k.less d[c]! d[a]! = false:=fun q h1 h2 h3 c h4 h5=>by
  rw[hA a q (Nat.le_refl _) ham h1 h2] at h3
  rw[hA a c (Nat.le_refl _) ham (by omega) h5]
  by_cases e:c=q
  ·rw[e];exact h3
  ·exact hno _ _ _ (hR q c h1 (by omega) h5) h3
 have up2:∀q,a<=q->q<m->k.less d[m]! d[q]! = true->∀c,q<=c->c<m->k.less d[m]! d[c]! = true:=fun q h1 h2 h3 c h4 h5=>by
  rw[hA q m h1 h2 (Nat.le_refl _) hmb] at h3
  rw[hA c m (by omega) h5 (Nat.le_refl _) hmb]
  by_cases e:c=q
  ·rw[e];exact h3
  ·cases hq:lt d[m]! d[c]! with
   | true=>rfl
   | false=>rw[hno _ _ _ hq (hL q c h1 (by omega) h5)] at h3;cases h3
 have dn2:∀q,a<=q->q<m->k.less d[m]! d[q]! = false->∀c,a<=c->c<=q->k.less d[m]! d[c]! = false:=fun q h1 h2 h3 c h4 h5=>by
  rw[hA q m h1 h2 (Nat.le_refl _) hmb] at h3
  rw[hA c m h4 (by omega) (Nat.le_refl _) hmb]
  by_cases e:c=q
  ·rw[e];exact h3
  ·exact hno _ _ _ h3 (hL c q h4 (by omega) h2)
 refine Sv_enter Tryz.func208 rfl (by rw[Tryz.ntmps208];rfl) ?_;show Wc Tryz.prog ⟨208,220,none⟩ _ _ _ _ _
 refine zz ?_
 by_cases c1:m=a+1
 ·refine Wo_do rfl rfl rfl rfl (A_tt (by omega) (A_eql rfl rfl)) ?_
  refine zz ?_
  refine Wc_loop (fun (s:Nat×Nat) me ds h'=>ds=[]/\m<=s.1/\s.1<=s.2/\s.2<=b/\(∀c,m<=c->c<s.1->k.less d[c]! d[a]! = true)/\(∀c,s.2<=c->c<b->k.less d[c]! d[a]! = false)/\k.St d h'/\AllK me [(0,k.v),(1,i64 a),(2,i64 m),(3,i64 b),(4,k.f),(10,i64 s.1),(11,i64 s.2)]) (fun s=>s.2-s.1) (m,b) ?_ ?_
  ·exact⟨rfl,Nat.le_refl _,by show m<=b;omega,Nat.le_refl _,(fun c h1 h2=>by simp only at h2;omega),(fun c h1 h2=>by simp only at h1;omega),hs,rfl,rfl,rfl,rfl,rfl,rfl,rfl,trivial⟩
  clear hs
  rintro⟨i,j⟩ me ds h1 ⟨rfl,hi0,hij,hjb,k1,k2,hs,hall⟩
  simp only at hi0 hij hjb k1 k2
  refine Wc.le ?_ (Le.kn hall)
  refine zz ?_
  refine Wo_dec rfl rfl rfl rfl (A_lss rfl rfl) (fun hlt=>?_) (fun hlt=>?_)
  rotate_left
  ·have hij':i=j:=by omega
   subst hij'
   refine zz ?_
   refine Wc_loop (fun (q:Nat) me ds h'=>ds=[]/\a<=q/\q+1<=i/\∃d1,Rot a (a+1) (q+1) d d1/\k.St d1 h'/\AllK me [(0,k.v),(1,i64 a),(2,i64 m),(3,i64 b),(4,k.f),(10,i64 i),(13,i64 q)]) (fun q=>i-q) a ?_ ?_
   ·exact⟨rfl,Nat.le_refl _,by omega,d,rot_refl _ (.inr rfl) (by omega) (Nat.le_refl _),hs,rfl,rfl,rfl,rfl,rfl,rfl,rfl,trivial⟩
   clear hs hall
   clear h1 me
   rintro q me ds h1 ⟨rfl,hq0,hq1,d1,hrot,hs,hall⟩
   refine Wc.le ?_ (Le.kn hall)
   have hsz1:=hs.sz
   refine zz ?_
   refine Wo_dec rfl rfl rfl rfl (A_lss rfl rfl) (fun hqi=>?_) (fun hqi=>?_)
   rotate_left
   ·have hq:q+1=i:=by omega
    subst hq
    refine zz ?_
    refine Wc_ret (Lv_ret rfl ⟨rfl,d1,insert_first hW c1 hi0 hjb (by omega) hA hR k1 k2 (by rw[c1];exact hrot),hs⟩)
   have hq':q+1<i:=by omega
   have hc1:=hs.cell (i:=q) (by omega)
   have hc2:=hs.cell (i:=q+1) (by omega)
   have hg:=hs.gt
   refine zz ?_
   refine Wc_draw hmix [0,0,0,0,8,0,0,64,224,480,0,0,3072,7168,16355,32739,65535,131071] [0,1,2,3,4,5,6,7,8,9,10,11,12,13,14] (some 15) [([16],(some 17)),([],none)] (by kernel_rfl) (by kernel_rfl) ?_
   refine z_m ?_;refine z_m ?_;refine z_m ?_;refine z_m ?_;refine z_y ?_;refine z_m ?_;refine z_m ?_;refine z_y ?_;refine Wp_pure rfl rfl rfl rfl rfl (fun _=>A_indexAddr (k:=q+1) (z:=((q:Nat):Int)+1) Und.h Tsz.h rfl rfl (by omega) (by omega)) ?_;refine z_l ?_;refine z_m ?_;refine z_m ?_;refine z_i ?_;refine z_l ?_;refine z_i ?_
   refine Wp_eff [0,1,5,6,7,8,9,10,11,12,13,14] (by kernel_rfl) rfl (Stl_nil rfl) rfl nb rfl (W1_store rfl rfl Tsz.h rfl rfl hg rfl rfl (lay_one (by simp;omega)) (fun h2 hU2=>?_))
   refine Wp_pure rfl rfl rfl rfl rfl (fun _=>A_indexAddr (k:=q+1) (z:=((q:Nat):Int)+1) Und.h Tsz.h rfl rfl (by omega) (by omega)) ?_
   refine Wp_eff [0,1,2,3,4,5,6,7,8,9,10,11,12,13,14,15,16] (by kernel_rfl) rfl (by refine t_y 4 ?_;refine t_m 3 ?_;refine t_m 2 ?_;exact Stl_nil rfl) rfl nb rfl (W1_store rfl rfl Tsz.h rfl rfl hU2.at' rfl rfl (lay_one (by simp;omega)) (fun h3 hU3=>?_))
   refine Wp_end (Stl_nil rfl) nb' ?_
   have hs3:=hs.swp (i:=q) (j:=q+1) (by omega) (by omega) (by simpa using hU2) (by simpa using hU3)
   refine zz ?_
   exact⟨q+1,(by show i-(q+1)<i-q;omega),rfl,(by show a<=q+1;omega),(by show q+1+1<=i;omega),_,rot_up hrot hq0 (by omega),hs3,rfl,rfl,rfl,rfl,rfl,rfl,rfl,trivial⟩
  have hlt':i<j:=by omega
  have hc1:=hs.cell (i:=(i+j) / 2) (by omega)
  have hc2:=hs.cell (i:=a) (by omega)
  have hcm:=hk.cmp h1 hs.ex d[(i+j) / 2]! d[a]! (hs.dom _ (by omega)) (hs.dom _ (by omega))
  refine zz ?_
  refine Wo_do rfl rfl rfl rfl (A_convV ⟨_,Und.h⟩ Und.h rfl (cv1 (i:=i) (j:=j) (by omega))) ?_
  refine Wo_do rfl rfl rfl rfl (A_shrV rfl rfl (by omega) (cv2 (i:=i) (j:=j))) ?_
  refine Wo_do rfl rfl rfl rfl (A_convV ⟨_,Und.h⟩ Und.h rfl (cv3 (i:=i) (j:=j) (by omega))) ?_
  refine zz ?_
  refine Wc_draw hmix [0,0,0,6,14,0,0,96,224,511,1023] [0,1,2,3,4,5,6,7,8] (some 9) [([10],none)] (by kernel_rfl) (by kernel_rfl) ?_
  refine z_m ?_;refine z_m ?_;refine z_m ?_;refine z_i ?_;refine z_l ?_;refine z_m ?_;refine z_m ?_;refine z_i ?_;refine z_l ?_
  refine Wp_eff [0,1,2,3,4,5,6,7,8] (by kernel_rfl) rfl (Stl_nil rfl) rfl nb rfl (W1_call rfl rfl rfl rfl rfl hk.bd hcm (fun v5 h5 hv=>?_) (fun _ _ hR=>hR.elim))
  obtain⟨c,rfl,hcl,hE5⟩:=hv
  replace hs:=hs.ext hE5
  refine Wp_dec rfl rfl rfl rfl rfl (fun _=>A_lss rfl rfl) (fun hcc=>?_) (fun hcc=>?_)
  ·refine Wp_end (Stl_nil rfl) nb' ?_
   refine zz ?_
   exact⟨((i+j) / 2+1,j),(by show j-((i+j) / 2+1)<j-i;omega),rfl,(by show m<=(i+j) / 2+1;omega),(by show (i+j) / 2+1<=j;omega),hjb,(fun c h1 h2=>up1 _ (by omega) (by omega) (hcl.1 hcc) c h1 (by simp only at h2;omega)),k2,hs,rfl,rfl,rfl,rfl,rfl,rfl,rfl,trivial⟩
  ·refine Wp_end (Stl_nil rfl) nb' ?_
   refine zz ?_
   exact⟨(i,(i+j) / 2),(by show (i+j) / 2-i<j-i;omega),rfl,hi0,(by show i<=(i+j) / 2;omega),(by show (i+j) / 2<=b;omega),k1,(fun c h1 h2=>dn1 ((i+j) / 2) (by omega) (by omega) (by cases hq:k.less d[(i+j) / 2]! d[a]! with|false=>rfl|true=>exact absurd (hcl.2 hq) hcc) c h1 h2),hs,rfl,rfl,rfl,rfl,rfl,rfl,rfl,trivial⟩
 refine Wo_do rfl rfl rfl rfl (A_ff (by omega) (A_eql rfl rfl)) ?_
 refine zz ?_
 by_cases c2:b=m+1
 ·refine Wo_do rfl rfl rfl rfl (A_tt (by omega) (A_eql rfl rfl)) ?_
  refine zz ?_
  refine Wc_loop (fun (s:Nat×Nat) me ds h'=>ds=[]/\a<=s.1/\s.1<=s.2/\s.2<=m/\(∀c,a<=c->c<s.1->k.less d[m]! d[c]! = false)/\(∀c,s.2<=c->c<m->k.less d[m]! d[c]! = true)/\k.St d h'/\AllK me [(0,k.v),(1,i64 a),(2,i64 m),(3,i64 b),(4,k.f),(14,i64 s.1),(15,i64 s.2)]) (fun s=>s.2-s.1) (a,m) ?_ ?_
  ·exact⟨rfl,Nat.le_refl _,by show a<=m;omega,Nat.le_refl _,(fun c h1 h2=>by simp only at h2;omega),(fun c h1 h2=>by simp only at h1;omega),hs,rfl,rfl,rfl,rfl,rfl,rfl,rfl,trivial⟩
  clear hs
  rintro⟨i,j⟩ me ds h1 ⟨rfl,hi0,hij,hjb,k1,k2,hs,hall⟩
  simp only at hi0 hij hjb k1 k2
  refine Wc.le ?_ (Le.kn hall)
  refine zz ?_
  refine Wo_dec rfl rfl rfl rfl (A_lss rfl rfl) (fun hlt=>?_) (fun hlt=>?_)
  rotate_left
  ·have hij':i=j:=by omega
   subst hij'
   refine zz ?_
   refine Wc_loop (fun (q:Nat) me ds h'=>ds=[]/\i<=q/\q<=m/\∃d1,Rot q m (m+1) d d1/\k.St d1 h'/\AllK me [(0,k.v),(1,i64 a),(2,i64 m),(3,i64 b),(4,k.f),(14,i64 i),(17,i64 q)]) (fun q=>q) m ?_ ?_
   ·exact⟨rfl,hjb,Nat.le_refl _,d,rot_refl _ (.inl rfl) (Nat.le_refl _) (by omega),hs,rfl,rfl,rfl,rfl,rfl,rfl,rfl,trivial⟩
   clear hs hall
   clear h1 me
   rintro q me ds h1 ⟨rfl,hq0,hq1,d1,hrot,hs,hall⟩
   refine Wc.le ?_ (Le.kn hall)
   have hsz1:=hs.sz
   refine zz ?_
   refine Wo_dec rfl rfl rfl rfl (A_gtr rfl rfl) (fun hqi=>?_) (fun hqi=>?_)
   rotate_left
   ·have hq:q=i:=by omega
    subst hq
    refine zz ?_
    refine Wc_ret (Lv_ret rfl ⟨rfl,d1,insert_last hW c2 hi0 hjb (by omega) hA hL k1 k2 (by rw[c2];exact hrot),hs⟩)
   have hq':i<q:=by omega
   obtain⟨q,rfl⟩:∃q',q=q'+1:=⟨q-1,by omega⟩
   have hc1:=hs.cell (i:=q+1) (by omega)
   have hc2:=hs.cell (i:=q) (by omega)
   have hg:=hs.gt
   refine zz ?_
   refine Wc_draw hmix [0,0,0,0,8,0,0,64,224,480,0,0,3072,7168,16355,32739,65535,131071] [0,1,2,3,4,5,6,7,8,9,10,11,12,13,14] (some 15) [([16],(some 17)),([],none)] (by kernel_rfl) (by kernel_rfl) ?_
   refine z_m ?_;refine z_m ?_;refine z_m ?_;refine z_m ?_;refine z_u ?_;refine z_m ?_;refine z_m ?_;refine z_u ?_;refine Wp_pure rfl rfl rfl rfl rfl (fun _=>A_indexAddr (k:=q) (z:=((q+1:Nat):Int)-1) Und.h Tsz.h rfl rfl (by omega) (by omega)) ?_;refine z_l ?_;refine z_m ?_;refine z_m ?_;refine Wp_pure rfl rfl rfl rfl rfl (fun _=>A_indexAddr (k:=q+1) (z:=((q+1:Nat):Int)) Und.h Tsz.h rfl rfl (by omega) (by omega)) ?_;refine z_l ?_;refine Wp_pure rfl rfl rfl rfl rfl (fun _=>A_indexAddr (k:=q+1) (z:=((q+1:Nat):Int)) Und.h Tsz.h rfl rfl (by omega) (by omega)) ?_
   refine Wp_eff [0,1,5,6,7,8,9,10,11,12,13,14] (by kernel_rfl) rfl (Stl_nil rfl) rfl nb rfl (W1_store rfl rfl Tsz.h rfl rfl hg rfl rfl (lay_one (by simp;omega)) (fun h2 hU2=>?_))
   refine Wp_pure rfl rfl rfl rfl rfl (fun _=>A_indexAddr (k:=q) (z:=((q+1:Nat):Int)-1) Und.h Tsz.h rfl rfl (by omega) (by omega)) ?_
   refine Wp_eff [0,1,2,3,4,5,6,7,8,9,10,11,12,13,14,15,16] (by kernel_rfl) rfl (by refine t_u 4 ?_;refine t_m 3 ?_;refine t_m 2 ?_;exact Stl_nil rfl) rfl nb rfl (W1_store rfl rfl Tsz.h rfl rfl hU2.at' rfl rfl (lay_one (by simp;omega)) (fun h3 hU3=>?_))
   refine Wp_end (Stl_nil rfl) nb' ?_
   have hs3:=hs.swp (i:=q+1) (j:=q) (by omega) (by omega) (by simpa using hU2) (by simpa using hU3)
   refine zz ?_
   refine⟨q,(by show q<q+1;omega),rfl,(by show i<=q;omega),(by show q<=m;omega),_,rot_down hrot (by omega) (by omega),hs3,rfl,rfl,rfl,rfl,rfl,rfl,?_,trivial⟩
   show some (Value.int .i64 (((q+1:Nat):Int)-1))=some (i64 ((q:Nat):Int))
   congr 2
   omega
  have hlt':i<j:=by omega
  have hc1:=hs.cell (i:=m) (by omega)
  have hc2:=hs.cell (i:=(i+j) / 2) (by omega)
  have hcm:=hk.cmp h1 hs.ex d[m]! d[(i+j) / 2]! (hs.dom _ (by omega)) (hs.dom _ (by omega))
  refine zz ?_
  refine Wo_do rfl rfl rfl rfl (A_convV ⟨_,Und.h⟩ Und.h rfl (cv1 (i:=i) (j:=j) (by omega))) ?_
  refine Wo_do rfl rfl rfl rfl (A_shrV rfl rfl (by omega) (cv2 (i:=i) (j:=j))) ?_
  refine Wo_do rfl rfl rfl rfl (A_convV ⟨_,Und.h⟩ Und.h rfl (cv3 (i:=i) (j:=j) (by omega))) ?_
  refine zz ?_
  refine Wc_draw hmix [0,0,0,6,14,0,0,96,224,511,1023,2047] [0,1,2,3,4,5,6,7,8] (some 9) [([10,11],none)] (by kernel_rfl) (by kernel_rfl) ?_
  refine z_m ?_;refine z_m ?_;refine z_m ?_;refine z_i ?_;refine z_l ?_;refine z_m ?_;refine z_m ?_;refine z_i ?_;refine z_l ?_
  refine Wp_eff [0,1,2,3,4,5,6,7,8] (by kernel_rfl) rfl (Stl_nil rfl) rfl nb rfl (W1_call rfl rfl rfl rfl rfl hk.bd hcm (fun v5 h5 hv=>?_) (fun _ _ hR=>hR.elim))
  obtain⟨c,rfl,hcl,hE5⟩:=hv
  replace hs:=hs.ext hE5
  refine Wp_dec rfl rfl rfl rfl rfl (fun _=>A_lss rfl rfl) (fun hcc=>?_) (fun hcc=>?_)
  ·refine z_n ?_
   refine Wp_end (Stl_nil rfl) nb' ?_
   refine zz ?_
   exact⟨(i,(i+j) / 2),(by show (i+j) / 2-i<j-i;omega),rfl,hi0,(by show i<=(i+j) / 2;omega),(by show (i+j) / 2<=m;omega),k1,(fun c h1 h2=>up2 ((i+j) / 2) (by omega) (by omega) (hcl.1 hcc) c h1 h2),hs,rfl,rfl,rfl,rfl,rfl,rfl,rfl,trivial⟩
  ·refine z_n ?_
   refine Wp_end (Stl_nil rfl) nb' ?_
   refine zz ?_
   exact⟨((i+j) / 2+1,j),(by show j-((i+j) / 2+1)<j-i;omega),rfl,(by show a<=(i+j) / 2+1;omega),(by show (i+j) / 2+1<=j;omega),hjb,(fun c h1 h2=>dn2 ((i+j) / 2) (by omega) (by omega) (by cases hq:k.less d[m]! d[(i+j) / 2]! with|false=>rfl|true=>exact absurd (hcl.2 hq) hcc) c h1 (by simp only at h2;omega)),k2,hs,rfl,rfl,rfl,rfl,rfl,rfl,rfl,trivial⟩
 refine Wo_do rfl rfl rfl rfl (A_ff (by omega) (A_eql rfl rfl)) ?_
 refine zz ?_
 refine Wo_do rfl rfl rfl rfl (A_convV ⟨_,Und.h⟩ Und.h rfl (cv1 (i:=a) (j:=b) (by omega))) ?_
 refine Wo_do rfl rfl rfl rfl (A_shrV rfl rfl (by omega) (cv2 (i:=a) (j:=b))) ?_
 refine Wo_do rfl rfl rfl rfl (A_convV ⟨_,Und.h⟩ Und.h rfl (cv3 (i:=a) (j:=b) (by omega))) ?_
 have hmid1:a<=(a+b) / 2:=by omega
 have hmid2:(a+b) / 2<b:=by omega
 generalize hmid:(a+b) / 2=mid at *
 refine zz ?_
 refine Wo_do rfl rfl rfl rfl (A_gtr rfl rfl) ?_
 refine zz ?_
 refine Wc.mono (Q:=fun x me ds' h'=>x=.normal/\ds'=[]/\h'=h/\∃(lo hi:Nat),((mid<m/\lo=mid+m-b/\hi=mid)\/(m<=mid/\lo=a/\hi=m))/\AllK me [(0,k.v),(1,i64 a),(2,i64 m),(3,i64 b),(4,k.f),(18,i64 mid),(19,i64 ((mid:Int)+(m:Int))),(20,i64 lo),(21,i64 hi)]) ?_ ?_
 ·refine Wc_cond rfl (fun ht=>?_) (fun hn=>?_)
  ·have ht:=of_decide_eq_true ht
   have ht':mid<m:=by omega
   refine zz ?_
   refine⟨rfl,rfl,rfl,mid+m-b,mid,.inl ⟨ht',rfl,rfl⟩,rfl,rfl,rfl,rfl,rfl,rfl,rfl,?_,rfl,trivial⟩
   show some (Value.int .i64 (((mid:Int)+(m:Int))-(b:Int)))=some (i64 ((mid+m-b:Nat):Int))
   congr 2
   omega
  ·have hn:=of_decide_eq_false hn
   have hn':m<=mid:=by omega
   refine zz ?_
   exact⟨rfl,rfl,rfl,a,m,.inr ⟨hn',rfl,rfl⟩,rfl,rfl,rfl,rfl,rfl,rfl,rfl,rfl,rfl,trivial⟩
 rintro x me ds' h' ⟨rfl,rfl,rfl,lo,hi,hlo,hall⟩
 show Wc _ _ _ _ _ _ _
 refine Wc.le ?_ (Le.kn hall)
 have hloh:a<=lo/\lo<=hi/\hi<=m/\hi<=mid:=by omega
 have hpb:∀c,lo<=c->c<hi->m<=mid+m-1-c/\mid+m-1-c<b:=by omega
 have up3:∀q,lo<=q->q<hi->k.less d[mid+m-1-q]! d[q]! = true->∀c,q<=c->c<hi->k.less d[mid+m-1-c]! d[c]! = true:=fun q h1 h2 h3 c h4 h5=>by
  have q1:=hpb q h1 h2
  have q2:=hpb c (by omega) h5
  rw[hA q _ (by omega) (by omega) q1.1 q1.2] at h3
  rw[hA c _ (by omega) (by omega) q2.1 q2.2]
  by_cases e:c=q
  ·rw[e];exact h3
  ·cases hq:lt d[mid+m-1-c]! d[c]! with
   | true=>rfl
   | false =>
    have e1:=hno _ _ _ hq (hL q c (by omega) (by omega) (by omega))
    rw[hno _ _ _ (hR (mid+m-1-c) (mid+m-1-q) q2.1 (by omega) q1.2) e1] at h3;cases h3
 have dn3:∀q,lo<=q->q<hi->k.less d[mid+m-1-q]! d[q]! = false->∀c,lo<=c->c<=q->k.less d[mid+m-1-c]! d[c]! = false:=fun q h1 h2 h3 c h4 h5=>by
  cases hq:k.less d[mid+m-1-c]! d[c]! with
  | false=>rfl
  | true=>rw[up3 c h4 (by omega) hq q h5 h2] at h3;cases h3
 refine zz ?_
 refine Wc_loop (fun (s:Nat×Nat) me ds h'=>ds=[]/\lo<=s.1/\s.1<=s.2/\s.2<=hi/\(∀c,lo<=c->c<s.1->k.less d[mid+m-1-c]! d[c]! = false)/\(∀c,s.2<=c->c<hi->k.less d[mid+m-1-c]! d[c]! = true)/\k.St d h'/\AllK me [(0,k.v),(1,i64 a),(2,i64 m),(3,i64 b),(4,k.f),(18,i64 mid),(19,i64 ((mid:Int)+(m:Int))),(20,i64 s.1),(21,i64 s.2),(22,i64 ((mid:Int)+(m:Int)-1))]) (fun s=>s.2-s.1) (lo,hi) ?_ ?_
 ·exact⟨rfl,Nat.le_refl _,hloh.2.1,Nat.le_refl _,(fun c h1 h2=>by simp only at h2;omega),(fun c h1 h2=>by simp only at h1;omega),hs,rfl,rfl,rfl,rfl,rfl,rfl,rfl,rfl,rfl,rfl,trivial⟩
 clear hs hall
 clear me
 rintro⟨i,j⟩ me ds h1 ⟨rfl,hi0,hij,hjb,k1,k2,hs,hall⟩
 simp only at hi0 hij hjb k1 k2
 refine Wc.le ?_ (Le.kn hall)
 refine zz ?_
 refine Wo_dec rfl rfl rfl rfl (A_lss rfl rfl) (fun hlt=>?_) (fun hlt=>?_)
 ·have hlt':i<j:=by omega
  have q1:=hpb ((i+j) / 2) (by omega) (by omega)
  have hc1:=hs.cell (i:=mid+m-1-(i+j) / 2) (by omega)
  have hc2:=hs.cell (i:=(i+j) / 2) (by omega)
  have hcm:=hk.cmp h1 hs.ex d[mid+m-1-(i+j) / 2]! d[(i+j) / 2]! (hs.dom _ (by omega)) (hs.dom _ (by omega))
  refine zz ?_
  refine Wo_do rfl rfl rfl rfl (A_convV ⟨_,Und.h⟩ Und.h rfl (cv1 (i:=i) (j:=j) (by omega))) ?_
  refine Wo_do rfl rfl rfl rfl (A_shrV rfl rfl (by omega) (cv2 (i:=i) (j:=j))) ?_
  refine Wo_do rfl rfl rfl rfl (A_convV ⟨_,Und.h⟩ Und.h rfl (cv3 (i:=i) (j:=j) (by omega))) ?_
  refine zz ?_
  refine Wc_draw hmix [0,0,0,0,12,30,62,0,0,384,896,2047,4095,8191] [0,1,2,3,4,5,6,7,8,9,10] (some 11) [([12,13],none)] (by kernel_rfl) (by kernel_rfl) ?_
  refine z_m ?_;refine z_m ?_;refine z_m ?_;refine z_m ?_;refine z_u ?_;refine Wp_pure rfl rfl rfl rfl rfl (fun _=>A_indexAddr (k:=mid+m-1-(i+j) / 2) (z:=((mid:Nat):Int)+(m:Nat)-1-(((i+j) / 2:Nat):Int)) Und.h Tsz.h rfl rfl (by omega) (by omega)) ?_;refine z_l ?_;refine z_m ?_;refine z_m ?_;refine z_i ?_;refine z_l ?_
  refine Wp_eff [0,1,2,3,4,5,6,7,8,9,10] (by kernel_rfl) rfl (Stl_nil rfl) rfl nb rfl (W1_call rfl rfl rfl rfl rfl hk.bd hcm (fun v5 h5 hv=>?_) (fun _ _ hR=>hR.elim))
  obtain⟨c,rfl,hcl,hE5⟩:=hv
  replace hs:=hs.ext hE5
  refine Wp_dec rfl rfl rfl rfl rfl (fun _=>A_lss rfl rfl) (fun hcc=>?_) (fun hcc=>?_)
  ·refine z_n ?_
   refine Wp_end (Stl_nil rfl) nb' ?_
   refine zz ?_
   exact⟨(i,(i+j) / 2),(by show (i+j) / 2-i<j-i;omega),rfl,hi0,(by show i<=(i+j) / 2;omega),(by show (i+j) / 2<=hi;omega),k1,(fun c h1 h2=>up3 ((i+j) / 2) (by omega) (by omega) (hcl.1 hcc) c h1 h2),hs,rfl,rfl,rfl,rfl,rfl,rfl,rfl,rfl,rfl,rfl,trivial⟩
  ·refine z_n ?_
   refine Wp_end (Stl_nil rfl) nb' ?_
   refine zz ?_
   exact⟨((i+j) / 2+1,j),(by show j-((i+j) / 2+1)<j-i;omega),rfl,(by show lo<=(i+j) / 2+1;omega),(by show (i+j) / 2+1<=j;omega),hjb,(fun c h1 h2=>dn3 ((i+j) / 2) (by omega) (by omega) (by cases hq:k.less d[mid+m-1-(i+j) / 2]! d[(i+j) / 2]! with|false=>rfl|true=>exact absurd (hcl.2 hq) hcc) c h1 (by simp only at h2;omega)),k2,hs,rfl,rfl,rfl,rfl,rfl,rfl,rfl,rfl,rfl,rfl,trivial⟩
 have hij':i=j:=by omega
 subst hij'
 have hcut:=cut_of (lt:=lt) (less:=k.less) hW hA hL hR hi0 hjb (p:=mid+m-1) (by rw[hmid];omega) ham hmb (by rw[hmid];exact hlo) k1 k2
 rw[show mid+m-1+1-i=mid+m-i by omega] at hcut
 generalize hfin:mid+m-i=fin at *
 have hf1:m<=fin:=by omega
 have hf2:fin<=b:=by omega
 have hf3:i+(fin-m)=mid:=by omega
 refine Wo_nil ?_
 show Wc _ _ _ _ _ _ _
 refine Wc_condF rfl ?_
 refine Wc_exit ?_
 show Wc _ _ _ _ _ _ _
 refine Wc_seq2 (Q':=fun x me ds' h'=>x=.normal/\ds'=[]/\(∃d1,Rot i m fin d d1/\k.St d1 h')/\AllK me [(0,k.v),(1,i64 a),(2,i64 m),(3,i64 b),(4,k.f),(18,i64 mid),(20,i64 i),(24,i64 fin)]) ?_ ?_
 ·have he24:some (Value.int .i64 ((mid:Int)+(m:Int)-(i:Int)))=some (i64 ((fin:Nat):Int)):=by
   congr 2
   omega
  refine zz ?_
  by_cases e1:i<m
  ·refine Wo_do rfl rfl rfl rfl (A_tt (by omega) (A_lss rfl rfl)) ?_
   refine zz ?_
   by_cases e2:m<fin
   ·refine Wo_do rfl rfl rfl rfl (A_tt (by omega) (A_lss rfl rfl)) ?_
    refine zz ?_
    refine Wo_callr rfl rfl rfl rfl rfl Bod.h rfl rfl (rotate_sv hk (a:=i) (m:=m) (b:=fin) rfl rfl (by omega) hs e1 e2 (by omega)) ?_
    rintro _ h2 ⟨rfl,d1,hR1,hs1⟩
    refine zz ?_
    exact⟨rfl,rfl,⟨d1,hR1,hs1⟩,rfl,rfl,rfl,rfl,rfl,rfl,rfl,he24,trivial⟩
   ·refine Wo_do rfl rfl rfl rfl (A_ff (by omega) (A_lss rfl rfl)) ?_
    refine zz ?_
    exact⟨rfl,rfl,⟨d,rot_refl _ (.inr (by omega)) (by omega) (by omega),hs⟩,rfl,rfl,rfl,rfl,rfl,rfl,rfl,he24,trivial⟩
  ·refine Wo_do rfl rfl rfl rfl (A_ff (by omega) (A_lss rfl rfl)) ?_
   refine zz ?_
   exact⟨rfl,rfl,⟨d,rot_refl _ (.inl (by omega)) (by omega) (by omega),hs⟩,rfl,rfl,rfl,rfl,rfl,rfl,rfl,he24,trivial⟩
 clear hs hall
 clear h1 me
 rintro x me ds h1 ⟨rfl,rfl,⟨d1,hR1,hs⟩,hall⟩
 obtain⟨⟨ag1,sl1,sr1⟩,⟨ag2,sl2,sr2⟩,hsep⟩:=after_rot hW (by omega) (by omega) hf1 hf2 (by omega) hA hL hR hcut hR1
 rw[hf3] at ag1 sr1 ag2 sl2 hsep
 have hsz1:=hs.sz
 show Wc _ _ _ _ _ _ _
 refine Wc.le ?_ (Le.kn hall)
 refine Wc_seq ?_
 refine Wc.mono (Q:=fun x me ds' h'=>x=.normal/\ds'=[]/\(∃d2,Merged lt a mid d1 d2/\k.St d2 h')/\AllK me [(0,k.v),(1,i64 a),(2,i64 m),(3,i64 b),(4,k.f),(18,i64 mid),(20,i64 i),(24,i64 fin)]) ?_ ?_
 ·refine zz ?_
  by_cases e1:a<i
  ·refine Wo_do rfl rfl rfl rfl (A_tt (by omega) (A_lss rfl rfl)) ?_
   refine zz ?_
   by_cases e2:i<mid
   ·refine Wo_do rfl rfl rfl rfl (A_tt (by omega) (A_lss rfl rfl)) ?_
    refine zz ?_
    refine Wo_callr rfl rfl rfl rfl rfl Bod.h rfl rfl (ih (mid-a) (by omega) rfl (a:=a) (mm:=i) (b:=mid) rfl rfl rfl hs e1 e2 (by omega) ag1 sl1 sr1) ?_
    rintro _ h2 ⟨rfl,d2,hM2,hs2⟩
    refine zz ?_
    exact⟨rfl,rfl,⟨d2,hM2,hs2⟩,rfl,rfl,rfl,rfl,rfl,rfl,rfl,rfl,trivial⟩
   ·refine Wo_do rfl rfl rfl rfl (A_ff (by omega) (A_lss rfl rfl)) ?_
    refine zz ?_
    exact⟨rfl,rfl,⟨d1,merged_refl (by rw[show mid=i by omega];exact sl1),hs⟩,rfl,rfl,rfl,rfl,rfl,rfl,rfl,rfl,trivial⟩
  ·refine Wo_do rfl rfl rfl rfl (A_ff (by omega) (A_lss rfl rfl)) ?_
   refine zz ?_
   exact⟨rfl,rfl,⟨d1,merged_refl (by rw[show a=i by omega];exact sr1),hs⟩,rfl,rfl,rfl,rfl,rfl,rfl,rfl,rfl,trivial⟩
 clear hs hall
 clear h1 me
 rintro x me ds h1 ⟨rfl,rfl,⟨d2,hM2,hs⟩,hall⟩
 have hge:∀q,mid<=q->d2[q]! = d1[q]!:=fun q hq=>hM2.1.2.1 q (.inr hq)
 have hsz2:=hs.sz
 show Wc _ _ _ _ _ _ _
 refine Wc.le ?_ (Le.kn hall)
 have hfinal:∀d3,Merged lt mid b d2 d3->Merged lt a b d d3:=fun d3 hM3=>by
  have h1:=merged_of (by omega) (by omega) (by omega) hsep hM2 hM3
  exact⟨permIn_trans _ _ _ _ _ (permIn_mono _ _ _ _ _ _ (by omega) hf2 (by omega) (hR1.perm (by omega) hf1 (by omega))) h1.1,h1.2⟩
 have ag2':Agree k.less lt mid fin b d2:=fun p q h1 h2 h3 h4=>by rw[hge p h1,hge q (by omega)];exact ag2 p q h1 h2 h3 h4
 have sl2':SortedIn lt mid fin d2:=sortedIn_congr sl2 fun q h1 _=>hge q h1
 have sr2':SortedIn lt fin b d2:=sortedIn_congr sr2 fun q h1 _=>hge q (by omega)
 refine zz ?_
 by_cases e1:mid<fin
 ·refine Wo_do rfl rfl rfl rfl (A_tt (by omega) (A_lss rfl rfl)) ?_
  refine zz ?_
  by_cases e2:fin<b
  ·refine Wo_do rfl rfl rfl rfl (A_tt (by omega) (A_lss rfl rfl)) ?_
   refine zz ?_
   refine Wo_callr rfl rfl rfl rfl rfl Bod.h rfl rfl (ih (b-mid) (by omega) rfl (a:=mid) (mm:=fin) (b:=b) rfl rfl rfl hs e1 e2 (by omega) ag2' sl2' sr2') ?_
   rintro _ h2 ⟨rfl,d3,hM3,hs3⟩
   refine zz ?_
   exact Lv_normal rfl ⟨rfl,d3,hfinal _ hM3,hs3⟩
  ·refine Wo_do rfl rfl rfl rfl (A_ff (by omega) (A_lss rfl rfl)) ?_
   refine zz ?_
   exact Lv_normal rfl ⟨rfl,d2,hfinal _ (merged_refl (by rw[show b=fin by omega];exact sl2')),hs⟩
 ·refine Wo_do rfl rfl rfl rfl (A_ff (by omega) (A_lss rfl rfl)) ?_
  refine zz ?_
  exact Lv_normal rfl ⟨rfl,d2,hfinal _ (merged_refl (by rw[show mid=fin by omega];exact sr2')),hs⟩
end Go.Dw
/- X5: contracts: the library's stable sort of numbers, part 5: blocks, merged. -/
namespace Go.Dw
open Go Go.Dx Go.Proofs Go.Sort
set_option maxRecDepth 100000
theorem ext_list (d:Array Int)(lo hi:Nat):(d.extract lo hi).toList=(d.toList.drop lo).take (hi-lo):=by rw[Array.toList_extract]
theorem ext_split {d:Array Int}{lo mi hi:Nat}(h1:lo<=mi)(h2:mi<=hi):(d.extract lo hi).toList=(d.extract lo mi).toList++(d.extract mi hi).toList:=by
 rw[ext_list,ext_list,ext_list,show hi-lo=(mi-lo)+(hi-mi) by omega,List.take_add,List.drop_drop,show lo+(mi-lo)=mi by omega]
theorem ext_congr {d d1:Array Int}{lo hi:Nat}(hs:d1.size=d.size)(hh:hi<=d.size)(h:∀i,lo<=i->i<hi->d1[i]! = d[i]!):(d1.extract lo hi).toList=(d.extract lo hi).toList:=by
 rw[ext_list,ext_list]
 apply List.ext_getElem?
 intro i
 rw[List.getElem?_take,List.getElem?_take]
 split
 ·rename_i hi'
  rw[List.getElem?_drop,List.getElem?_drop,Array.getElem?_toList,Array.getElem?_toList]
  have e:=h (lo+i) (by omega) (by omega)
  have k1:lo+i<d1.size:=by omega
  have k2:lo+i<d.size:=by omega
  rw[getElem!_pos d1 _ k1,getElem!_pos d _ k2] at e
  rw[Array.getElem?_eq_getElem k1,Array.getElem?_eq_getElem k2,e]
 ·rfl
theorem mem_ext {d:Array Int}{lo hi:Nat}(hh:hi<=d.size){x:Int}:x∈(d.extract lo hi).toList ↔ ∃i,lo<=i/\i<hi/\d[i]! = x:=by
 rw[ext_list,List.mem_iff_getElem]
 constructor
 ·rintro⟨i,hi',e⟩
  rw[List.length_take,List.length_drop,Array.length_toList] at hi'
  refine⟨lo+i,by omega,by omega,?_⟩
  rw[List.getElem_take,List.getElem_drop,Array.getElem_toList] at e
  rw[getElem!_pos d _ (by omega)];exact e
 ·rintro⟨i,h1,h2,e⟩
  refine⟨i-lo,by rw[List.length_take,List.length_drop,Array.length_toList];omega,?_⟩
  rw[List.getElem_take,List.getElem_drop,Array.getElem_toList]
  rw[getElem!_pos d _ (by omega)] at e
  rw[<-e]
  congr 1;omega
def Pt (lt:Int->Int->Bool)(d d1:Array Int)(lo hi:Nat):Prop:=(d1.extract lo hi).toList.Perm (d.extract lo hi).toList/\SortedIn lt lo hi d1
section
variable {lt less:Int->Int->Bool}{d d1 d2:Array Int}{lo mi hi:Nat}
theorem Pt.all (h:Pt lt d d1 lo hi)(hs:d1.size=d.size)(hh:hi<=d.size)(p:Int->Prop)(hp:∀i,lo<=i->i<hi->p d[i]!):∀i,lo<=i->i<hi->p d1[i]!:=fun i h1 h2=>by
 have:d1[i]! ∈ (d1.extract lo hi).toList:=(mem_ext (by omega)).2 ⟨i,h1,h2,rfl⟩
 obtain⟨j,j1,j2,e⟩:=(mem_ext hh).1 (h.1.subset this)
 rw[<-e];exact hp j j1 j2
theorem Pt.same (h:Pt lt d d1 lo hi)(hs:d2.size=d1.size)(hh:hi<=d1.size)(he:∀i,lo<=i->i<hi->d2[i]! = d1[i]!):Pt lt d d2 lo hi :=
 ⟨by rw[ext_congr hs hh he];exact h.1,sortedIn_congr h.2 he⟩
theorem Pt.merge (h1:Pt lt d d1 lo mi)(h2:Pt lt d d1 mi hi)(hl:lo<=mi)(hm:mi<=hi)(hM:Merged lt lo hi d1 d2):Pt lt d d2 lo hi :=
 ⟨hM.1.2.2.trans (by rw[ext_split hl hm,ext_split (d:=d) hl hm];exact h1.1.append h2.1),hM.2⟩
theorem Pt.agree (hpair:∀i j,i<j->j<d.size->less d[j]! d[i]! = lt d[j]! d[i]!)(h1:Pt lt d d1 lo mi)(h2:Pt lt d d1 mi hi)(hs:d1.size=d.size)(hl:lo<=mi)(hm:mi<=hi)(hh:hi<=d.size):Agree less lt lo mi hi d1 :=
 agree_of hl hm hh (fun i j _ h2 h3=>hpair i j h2 (by omega)) (fun p hp=>h1.all hs (by omega) p hp) (fun p hp=>h2.all hs hh p hp)
def Pts (lt:Int->Int->Bool)(d d1:Array Int)(s:Nat):Prop:=d1.size=d.size/\∀q,q*s<d.size->Pt lt d d1 (q*s) (min ((q+1)*s) d.size)
def Pts2 (lt:Int->Int->Bool)(d d1:Array Int)(s r:Nat):Prop:=d1.size=d.size/\(∀q,q<r->Pt lt d d1 (q*(2*s)) ((q+1)*(2*s)))/\∀q,2*r<=q->q*s<d.size->Pt lt d d1 (q*s) (min ((q+1)*s) d.size)
theorem Pts.start {s:Nat}(h:Pts lt d d1 s):Pts2 lt d d1 s 0:=⟨h.1,fun q hq=>by omega,fun q _ hq=>h.2 q hq⟩
theorem Pts.whole {s:Nat}(h:Pts lt d d1 s)(hs:d.size<=s):Merged lt 0 d.size d d1:=by
 rcases Nat.eq_zero_or_pos d.size with e|e
 ·rw[e]
  refine⟨⟨h.1,fun i _=>?_,?_⟩,fun i j _ _ hj=>by omega⟩
  ·have h1:d1.size<=i:=by rw[h.1];omega
   have h2:d.size<=i:=by omega
   rw[getElem!_neg d1 i (by omega),getElem!_neg d i (by omega)]
  ·rw[ext_list,ext_list];simp
 ·have h0:=h.2 0 (by omega)
  rw[Nat.zero_mul,Nat.zero_add,Nat.one_mul,Nat.min_eq_right hs] at h0
  refine⟨⟨h.1,fun i hi=>?_,h0.1⟩,h0.2⟩
  have h1:d1.size<=i:=by rw[h.1];omega
  have h2:d.size<=i:=by omega
  rw[getElem!_neg d1 i (by omega),getElem!_neg d i (by omega)]
theorem Pts2.step {s r:Nat}(h:Pts2 lt d d1 s r)(hr:(r+1)*(2*s)<=d.size)(hs:0<s)(hM:Merged lt (r*(2*s)) ((r+1)*(2*s)) d1 d2):Pts2 lt d d2 s (r+1):=by
 have e1:r*(2*s)=2*r*s:=by rw[<-Nat.mul_assoc,Nat.mul_comm r 2]
 have e2:(r+1)*(2*s)=(2*r+2)*s:=by rw[<-Nat.mul_assoc,Nat.mul_comm (r+1) 2,Nat.mul_add]
 have e3:(2*r+1)*s+s=(2*r+2)*s:=by rw[<-Nat.succ_mul]
 have e4:2*r*s+s=(2*r+1)*s:=by rw[<-Nat.succ_mul]
 have e5:(2*r+1+1)*s=(2*r+2)*s:=by rw[show 2*r+1+1=2*r+2 by omega]
 have hsz:d2.size=d1.size:=hM.1.1
 refine⟨hsz.trans h.1,fun q hq=>?_,fun q hq hqs=>?_⟩
 ·by_cases e:q=r
  ·subst e
   have p1:=h.2.2 (2*q) (Nat.le_refl _) (by omega)
   have p2:=h.2.2 (2*q+1) (by omega) (by omega)
   rw[Nat.min_eq_left (by omega)] at p1 p2
   have p3:=p1.merge p2 (by omega) (by rw[show 2*q+1+1=2*q+2 by omega];omega) (by rw[show 2*q+1+1=2*q+2 by omega,<-e1,<-e2];exact hM)
   rw[show 2*q+1+1=2*q+2 by omega,<-e1,<-e2] at p3
   exact p3
  ·have hq':q+1<=r:=by omega
   have:=Nat.mul_le_mul_right (2*s) hq'
   refine (h.2.1 q (by omega)).same hsz ?_ fun i _ hi=>hM.1.2.1 i (.inl (by omega))
   rw[h.1];omega
 ·have:=Nat.mul_le_mul_right s (show 2*r+2<=q by omega)
  refine (h.2.2 q (by omega) hqs).same hsz (by rw[h.1];omega) fun i hi _=>hM.1.2.1 i (.inr (by omega))
theorem Pts2.last {s r:Nat}(h:Pts2 lt d d1 s r)(hr:r*(2*s)<=d.size)(hr2:d.size<(r+1)*(2*s))(hs:0<s)(h2:(r*(2*s)+s<d.size/\Merged lt (r*(2*s)) d.size d1 d2)\/(d.size<=r*(2*s)+s/\d2=d1)):Pts lt d d2 (2*s):=by
 have e1:r*(2*s)=2*r*s:=by rw[<-Nat.mul_assoc,Nat.mul_comm r 2]
 have e2:(r+1)*(2*s)=(2*r+2)*s:=by rw[<-Nat.mul_assoc,Nat.mul_comm (r+1) 2,Nat.mul_add]
 have e3:(2*r+1)*s+s=(2*r+2)*s:=by rw[<-Nat.succ_mul]
 have e4:2*r*s+s=(2*r+1)*s:=by rw[<-Nat.succ_mul]
 have hsz:d2.size=d1.size:=by
  rcases h2 with ⟨_,hM⟩|⟨_,rfl⟩
  ·exact hM.1.1
  ·rfl
 refine⟨hsz.trans h.1,fun q hq=>?_⟩
 rcases Nat.lt_trichotomy q r with g|g|g
 ·have:=Nat.mul_le_mul_right (2*s) (show q+1<=r by omega)
  rw[Nat.min_eq_left (by omega)]
  refine (h.2.1 q g).same hsz (by rw[h.1];omega) fun i _ hi=>?_
  rcases h2 with ⟨_,hM⟩|⟨_,rfl⟩
  ·exact hM.1.2.1 i (.inl (by omega))
  ·rfl
 ·subst g
  rw[Nat.min_eq_right (by omega)]
  have p1:=h.2.2 (2*q) (Nat.le_refl _) (by omega)
  rcases h2 with ⟨h3,hM⟩|⟨h3,rfl⟩
  ·have p2:=h.2.2 (2*q+1) (by omega) (by omega)
   rw[Nat.min_eq_left (by omega)] at p1
   rw[Nat.min_eq_right (by rw[show 2*q+1+1=2*q+2 by omega];omega)] at p2
   have p3:=p1.merge p2 (by omega) (by omega) (by rw[<-e1];exact hM)
   rw[<-e1] at p3
   exact p3
  ·rw[Nat.min_eq_right (by omega),<-e1] at p1
   exact p1
 ·have:=Nat.mul_le_mul_right (2*s) (show r+1<=q by omega)
  omega
end
end Go.Dw
/- X6: contracts: the library's stable sort of numbers, part 6. -/
namespace Go.Dw
open Go Go.Dx Go.Proofs Go.Sort
set_option maxRecDepth 100000
theorem A_mul {P:Program}{m:Mem}{h:Heap}{d:Option Tmp}{ty:TypeId}{pos:String}{af:Array Edge}{gu:Option (Nat×Bool)}{t tz:TypeId}{x y:Operand}{a b:Int}(hx:opk h m x=some (.int .i64 a))(hy:opk h m y=some (.int .i64 b))(h1:-9223372036854775808<=a*b)(h2:a*b<9223372036854775808):Aop P ⟨d,.binOp .mul t x y tz,ty,pos,af,gu⟩ m h (.int .i64 (a*b)) h :=
 A_bin hx hy rfl rfl rfl fun w=>by
  have:IntKind.i64.wrap (a*b)=a*b:=IntWalk.i64_in _ (by omega)
  simp only[Sem.run_bind,eqGuard_int,Result.andThen_ok];simp[binOp,Op.intArith,this]
theorem A_mulV {P:Program}{m:Mem}{h:Heap}{d:Option Tmp}{ty:TypeId}{pos:String}{af:Array Edge}{gu:Option (Nat×Bool)}{t tz:TypeId}{x y:Operand}{a b c:Int}(hx:opk h m x=some (.int .i64 a))(hy:opk h m y=some (.int .i64 b))(hc:a*b=c)(h1:-9223372036854775808<=c)(h2:c<9223372036854775808):Aop P ⟨d,.binOp .mul t x y tz,ty,pos,af,gu⟩ m h (.int .i64 c) h:=by
 subst hc;exact A_mul hx hy h1 h2
set_option maxHeartbeats 3000000 in
theorem stable_sv {k:StabK}(hk:k.OK){lt:Int->Int->Bool}(hW:SWO lt){d:Array Int}{h:Heap}(hs:k.St d h)(hpair:∀i j,i<j->j<d.size->k.less d[j]! d[i]! = lt d[j]! d[i]!) :
  Sv Tryz.prog 171 [k.v,i64 (k.n:Nat),k.f] h (RetP fun v h'=>v=.tuple ⟨[]⟩/\∃d',Merged lt 0 d.size d d'/\k.St d' h'):=by
 have hsm:=hk.sm
 have hsz:=hs.sz
 refine Sv_enter Tryz.func171 rfl (by rw[Tryz.ntmps171];rfl) ?_;show Wc Tryz.prog ⟨171,63,none⟩ _ _ _ _ _
 refine zz ?_
 refine Wc_loop (fun (r:Nat) me ds h'=>ds=[]/\r*20<=k.n/\∃d1,d1.size=d.size/\(∀q,q<r->Pt lt d d1 (q*20) ((q+1)*20))/\(∀i,r*20<=i->d1[i]! = d[i]!)/\k.St d1 h'/\∃x y:Int,x=((r*20:Nat):Int)/\y=x+20/\AllK me [(0,k.v),(1,i64 (k.n:Nat)),(2,k.f),(6,i64 20),(7,i64 x),(8,i64 y)]) (fun r=>k.n-r*20) 0 ?_ ?_
 ·exact⟨rfl,by omega,d,rfl,(fun q hq=>by omega),(fun _ _=>rfl),hs,0,20,(by omega),(by omega),rfl,rfl,rfl,rfl,rfl,rfl,trivial⟩
 clear hs
 rintro r me ds h1 ⟨rfl,hr,d1,hd1,hP,hsame,hs,x,y,hx,hy,hall⟩
 refine Wc.le ?_ (Le.kn hall)
 have hblk:∀lo hi,lo<=hi->hi<=k.n->r*20<=lo->Merged lt lo hi d1 (insertionSort k.less d1 lo hi)/\∀d2,Merged lt lo hi d1 d2->Pt lt d d2 lo hi:=fun lo hi h1 h2 h3=>by
  refine⟨insertionSort_agree hW h1 (by omega) fun i j h4 h5 h6=>?_,fun d2 hM=>⟨hM.1.2.2.trans ?_,hM.2⟩⟩
  ·rw[hsame i (by omega),hsame j (by omega)];exact hpair i j h5 (by omega)
  ·rw[ext_congr hd1 (by omega) fun i h4 _=>hsame i (by omega)]
 refine zz ?_
 refine Wo_dec rfl rfl rfl rfl (A_leq rfl rfl) (fun hle=>?_) (fun hle=>?_)
 ·have hle':(r+1)*20<=k.n:=by omega
  refine zz ?_
  refine Wo_callr rfl rfl rfl rfl rfl Bod.h rfl rfl (insertion_sv hk hx (b:=(r+1)*20) (by omega) hs (by omega) hle') ?_
  rintro _ h2 ⟨rfl,hs2⟩
  obtain⟨hM,hPt⟩:=hblk (r*20) ((r+1)*20) (by omega) hle' (Nat.le_refl _)
  refine zz ?_
  refine⟨r+1,(by show k.n-(r+1)*20<k.n-r*20;omega),rfl,hle',_,hM.1.1.trans hd1,fun q hq=>?_,fun i hi=>(hM.1.2.1 i (.inr hi)).trans (hsame i (by omega)),hs2,y,y+20,(by omega),rfl,rfl,rfl,rfl,rfl,rfl,rfl,trivial⟩
  ·by_cases e:q=r
   ·subst e;exact hPt _ hM
   ·exact (hP q (by omega)).same hM.1.1 (by omega) fun i _ hi=>hM.1.2.1 i (.inl (by omega))
 have hle':k.n<(r+1)*20:=by omega
 refine zz ?_
 refine Wo_callr rfl rfl rfl rfl rfl Bod.h rfl rfl (insertion_sv hk hx rfl hs hr (Nat.le_refl _)) ?_
 rintro _ h2 ⟨rfl,hs2⟩
 obtain⟨hM,hPt⟩:=hblk (r*20) k.n hr (Nat.le_refl _) (Nat.le_refl _)
 have hPts:Pts lt d (insertionSort k.less d1 (r*20) k.n) 20:=by
  refine⟨hM.1.1.trans hd1,fun q hq=>?_⟩
  rcases Nat.lt_trichotomy q r with g|g|g
  ·rw[Nat.min_eq_left (by omega)]
   exact (hP q g).same hM.1.1 (by omega) fun i _ hi=>hM.1.2.1 i (.inl (by omega))
  ·subst g
   rw[Nat.min_eq_right (by omega),hsz]
   exact hPt _ hM
  ·omega
 generalize insertionSort k.less d1 (r*20) k.n=d2 at *
 clear hblk hP hsame hs hall hM hPt
 refine zz ?_
 refine Wc_loop (fun (s:Nat) me ds h'=>ds=[]/\0<s/\s<4000000/\∃d1,Pts lt d d1 s/\k.St d1 h'/\AllK me [(0,k.v),(1,i64 (k.n:Nat)),(2,k.f),(6,i64 s)]) (fun s=>k.n-s) 20 ?_ ?_
 ·exact⟨rfl,by omega,by omega,d2,hPts,hs2,rfl,rfl,rfl,rfl,trivial⟩
 clear hs2 hPts
 clear h2 d2
 rintro s me ds h1 ⟨rfl,hs0,hs4,d1,hPts,hs,hall⟩
 refine Wc.le ?_ (Le.kn hall)
 refine zz ?_
 refine Wo_dec rfl rfl rfl rfl (A_lss rfl rfl) (fun hlt=>?_) (fun hlt=>?_)
 rotate_left
 ·refine zz ?_
  exact Lv_normal rfl ⟨rfl,d1,hPts.whole (by omega),hs⟩
 have hlt':s<k.n:=by omega
 refine zz ?_
 refine Wo_do rfl rfl rfl rfl (A_mulV rfl rfl (c:=2*s) rfl (by omega) (by omega)) ?_
 refine zz ?_
 refine Wc_loop (fun (r:Nat) me ds h'=>ds=[]/\r*(2*s)<=k.n/\∃d1,Pts2 lt d d1 s r/\k.St d1 h'/\∃x y:Int,x=((r*(2*s):Nat):Int)/\y=x+2*s/\AllK me [(0,k.v),(1,i64 (k.n:Nat)),(2,k.f),(6,i64 s),(7,i64 x),(8,i64 y)]) (fun r=>k.n-r*(2*s)) 0 ?_ ?_
 ·refine⟨rfl,by omega,d1,hPts.start,hs,0,2*s,?_,by omega,rfl,rfl,rfl,rfl,rfl,?_,trivial⟩
  ·rw[Nat.zero_mul];rfl
  ·rfl
 clear hs hPts hall
 rintro r me ds h1 ⟨rfl,hr,d1,hP,hs,x,y,hx,hy,hall⟩
 refine Wc.le ?_ (Le.kn hall)
 have hrr:(r+1)*(2*s)=r*(2*s)+2*s:=Nat.succ_mul _ _
 have hrr2:(r+1+1)*(2*s)=r*(2*s)+2*s+2*s:=by rw[Nat.succ_mul,hrr]
 have e1:r*(2*s)=2*r*s:=by rw[<-Nat.mul_assoc,Nat.mul_comm r 2]
 have e4:(2*r+1)*s=r*(2*s)+s:=by rw[Nat.succ_mul,<-e1]
 have e5:(2*r+1+1)*s=r*(2*s)+2*s:=by rw[Nat.succ_mul,e4];omega
 refine zz ?_
 refine Wo_dec rfl rfl rfl rfl (A_leq rfl rfl) (fun hle=>?_) (fun hle=>?_)
 ·have hle':(r+1)*(2*s)<=k.n:=by omega
  have p1:=hP.2.2 (2*r) (Nat.le_refl _) (by omega)
  have p2:=hP.2.2 (2*r+1) (by omega) (by omega)
  rw[Nat.min_eq_left (by omega),<-e1,e4] at p1
  rw[Nat.min_eq_left (by omega),e4,e5] at p2
  have hag:=Pt.agree hpair p1 p2 hP.1 (by omega) (by omega) (by omega)
  refine zz ?_
  refine Wo_callr rfl rfl rfl rfl rfl Bod.h rfl rfl (symMerge_sv hk hW _ rfl (a:=r*(2*s)) (m:=r*(2*s)+s) (b:=r*(2*s)+2*s) hx (by omega) (by omega) hs (by omega) (by omega) (by omega) hag p1.2 p2.2) ?_
  rintro _ h2 ⟨rfl,d2,hM,hs2⟩
  refine zz ?_
  refine Wo_do rfl rfl rfl rfl (A_mulV rfl rfl (c:=2*s) rfl (by omega) (by omega)) ?_
  refine zz ?_
  refine⟨r+1,(by show k.n-(r+1)*(2*s)<k.n-r*(2*s);omega),rfl,hle',d2,hP.step (by omega) hs0 (by rw[hrr];exact hM),hs2,y,y+2*s,(by omega),rfl,rfl,rfl,rfl,rfl,rfl,rfl,trivial⟩
 have hle':k.n<(r+1)*(2*s):=by omega
 refine zz ?_
 by_cases hm:r*(2*s)+s<k.n
 ·refine Wo_do rfl rfl rfl rfl (A_tt (by omega) (A_lss rfl rfl)) ?_
  have p1:=hP.2.2 (2*r) (Nat.le_refl _) (by omega)
  have p2:=hP.2.2 (2*r+1) (by omega) (by omega)
  rw[Nat.min_eq_left (by omega),<-e1,e4] at p1
  rw[Nat.min_eq_right (by omega),e4,hsz] at p2
  have hag:=Pt.agree hpair p1 p2 hP.1 (by omega) (by omega) (by omega)
  refine zz ?_
  refine Wo_callr rfl rfl rfl rfl rfl Bod.h rfl rfl (symMerge_sv hk hW _ rfl (a:=r*(2*s)) (m:=r*(2*s)+s) (b:=k.n) hx (by omega) rfl hs (by omega) (by omega) (by omega) hag p1.2 p2.2) ?_
  rintro _ h2 ⟨rfl,d2,hM,hs2⟩
  refine zz ?_
  refine Wo_do rfl rfl rfl rfl (A_mulV rfl rfl (c:=s*2) rfl (by omega) (by omega)) ?_
  refine zz ?_
  refine⟨2*s,(by show k.n-2*s<k.n-s;omega),rfl,(by omega),(by omega),d2,hP.last (by omega) (by omega) hs0 (.inl ⟨by omega,by rw[hsz];exact hM⟩),hs2,rfl,rfl,rfl,?_,trivial⟩
  show some (i64 ((s:Int)*2))=some (i64 ((2*s:Nat):Int))
  congr 2;omega
 ·refine Wo_do rfl rfl rfl rfl (A_ff (by omega) (A_lss rfl rfl)) ?_
  refine zz ?_
  refine Wo_do rfl rfl rfl rfl (A_mulV rfl rfl (c:=s*2) rfl (by omega) (by omega)) ?_
  refine zz ?_
  refine⟨2*s,(by show k.n-2*s<k.n-s;omega),rfl,(by omega),(by omega),d1,hP.last (by omega) (by omega) hs0 (.inr ⟨by omega,rfl⟩),hs,rfl,rfl,rfl,?_,trivial⟩
  show some (i64 ((s:Int)*2))=some (i64 ((2*s:Nat):Int))
  congr 2;omega
theorem sortStable_sv {k:StabK}(hk:k.OK){lt:Int->Int->Bool}(hW:SWO lt){d:Array Int}{h:Heap}(hs:k.St d h)(hpair:∀i j,i<j->j<d.size->k.less d[j]! d[i]! = lt d[j]! d[i]!) :
  Sv Tryz.prog 142 [k.v,k.f] h (RetP fun v h'=>v=.tuple ⟨[]⟩/\∃d',Merged lt 0 d.size d d'/\k.St d' h'):=by
 refine Sv_enter Tryz.func142 rfl (by rw[Tryz.ntmps142];rfl) ?_;show Wc Tryz.prog ⟨142,9,none⟩ _ _ _ _ _
 refine zz ?_
 refine Wo_callr rfl rfl rfl rfl rfl Bod.h rfl rfl (stable_sv hk hW hs hpair) ?_
 rintro _ h2 ⟨rfl,d2,hM,hs2⟩
 refine zz ?_
 exact Lv_normal rfl ⟨rfl,d2,hM,hs2⟩
end Go.Dw
/- X7: contracts: the reels by their risk (ordered). -/
namespace Go.Dw
open Go Go.Dx Go.Proofs Go.Sort
set_option maxRecDepth 100000
theorem A_neg {P:Program}{m:Mem}{h:Heap}{d:Option Tmp}{ty:TypeId}{pos:String}{af:Array Edge}{gu:Option (Nat×Bool)}{t:TypeId}{x:Operand}{a:Int}(hx:opk h m x=some (.int .i64 a))(h1:-9223372036854775807<=a)(h2:a<9223372036854775808):Aop P ⟨d,.unOp .neg t x,ty,pos,af,gu⟩ m h (.int .i64 (-a)) h:=by
 refine A_flat1 hx rfl rfl fun ev w e=>?_
 have:IntKind.i64.wrap (-a) = -a:=IntWalk.i64_in _ (by omega)
 simp[execOp,e,Op.unary,Op.intArith,this]
def cmpI (a b:Int):Int:=if a<b then -1 else if b<a then 1 else 0
theorem isNaN_sv {h:Heap}{a:Int}:Sv Tryz.prog 172 [i64 a] h (RetP fun v h'=>v=.bool false/\Ext h h'):=by
 refine Sv_enter Tryz.func172 rfl (by rw[Tryz.ntmps172];rfl) ?_;show Wc Tryz.prog ⟨172,6,none⟩ _ _ _ _ _
 refine zz ?_
 refine Wo_do rfl rfl rfl rfl (A_ff (fun e=>e rfl) (A_neq rfl rfl)) ?_
 refine zz ?_
 exact Wc_ret (Lv_ret rfl ⟨rfl,Ext.refl _⟩)
theorem compare_sv {h:Heap}{a b:Int}:Sv Tryz.prog 144 [i64 a,i64 b] h (RetP fun v h'=>v=i64 (cmpI a b)/\Ext h h'):=by
 refine Sv_enter Tryz.func144 rfl (by rw[Tryz.ntmps144];rfl) ?_;show Wc Tryz.prog ⟨144,20,none⟩ _ _ _ _ _
 refine zz ?_
 refine Wo_callE rfl rfl rfl rfl rfl Bod.h rfl rfl (isNaN_sv) fun h1 hE1=>?_
 refine zz ?_
 refine Wo_callE rfl rfl rfl rfl rfl Bod.h rfl rfl (isNaN_sv) fun h2 hE2=>?_
 refine zz ?_
 have hE:=hE1.trans hE2
 unfold cmpI
 refine Wo_dec rfl rfl rfl rfl (A_lss rfl rfl) (fun hl=>?_) (fun hl=>?_)
 ·rw[if_pos hl]
  refine zz ?_
  exact Wc_ret (Lv_ret rfl ⟨rfl,hE⟩)
 rw[if_neg hl]
 refine zz ?_
 refine Wo_dec rfl rfl rfl rfl (A_gtr rfl rfl) (fun hg=>?_) (fun hg=>?_)
 ·rw[if_pos (by omega)]
  refine zz ?_
  exact Wc_ret (Lv_ret rfl ⟨rfl,hE⟩)
 rw[if_neg (by omega)]
 refine zz ?_
 exact Wc_ret (Lv_ret rfl ⟨rfl,hE⟩)
theorem riskOf_sv {t:Task}{ar:Option Addr}{cr:Nat}{h:Heap}(hR:RowsAt 5 ReelAt h ar t.reels)(hV:Valid t){x:Int}(h0:0<=x)(h1:x<t.reels.length)(hr:t.reels.length<=24) :
  Sv Tryz.prog 100 [.slice ar t.reels.length cr,i64 x] h (RetP fun v h'=>v=i64 (-(reelAt t x).risk)/\Ext h h'):=by
 obtain⟨k,rfl⟩:∃k:Nat,x=k:=⟨x.toNat,by omega⟩
 have hk:k<t.reels.length:=by omega
 obtain⟨b,o,oa,a,cap,rfl,hrow,-,hc⟩:=reelRow hR hk
 have hb:1<=(reelAt t (k:Nat)).risk/\(reelAt t (k:Nat)).risk<=1000000:=by
  rw[reelAt_nat hk];exact (hV.rs _ (List.getElem_mem hk)).2.2.2.2
 refine Sv_enter Tryz.func100 rfl (by rw[Tryz.ntmps100];rfl) ?_;show Wc Tryz.prog ⟨100,11,none⟩ _ _ _ _ _
 refine zz ?_
 refine Wo_do rfl rfl rfl rfl (A_ix Und.h Tsz.h rfl rfl) ?_
 refine zz ?_
 refine Wo_do rfl rfl rfl rfl (A_neg rfl (by omega) (by omega)) ?_
 refine zz ?_
 exact Wc_ret (Lv_ret rfl ⟨rfl,Ext.refl _⟩)
theorem byRisk_sv {t:Task}{ar:Option Addr}{cr b:Nat}{op:Bool}{h:Heap}(hR:RowsAt 5 ReelAt h ar t.reels)(hV:Valid t)(hg:h.get b=some (.cells [.func (.func 100) ⟨[.slice ar t.reels.length cr]⟩ ⟨[]⟩] 165 op)){x y:Int}(hx:0<=x/\x<t.reels.length)(hy:0<=y/\y<t.reels.length)(hr:t.reels.length<=24) :
  Sv Tryz.prog 143 [i64 x,i64 y,.pointer (some ⟨b,0,none⟩)] h (RetP fun v h'=>v=i64 (cmpI (-(reelAt t x).risk) (-(reelAt t y).risk))/\Ext h h'):=by
 refine Sv_enter Tryz.func143 rfl (by rw[Tryz.ntmps143];rfl) ?_;show Wc Tryz.prog ⟨143,13,none⟩ _ _ _ _ _
 refine zz ?_
 refine Wc_draw hmix [0,0,3,0,0,31,63,127] [0,1,3,4] (some 2) [([],(some 5)),([],(some 6)),([],(some 7)),([],none)] (by kernel_rfl) (by kernel_rfl) ?_
 refine z_l ?_;refine z_m ?_;refine z_l ?_;refine z_m ?_
 refine Wp_eff [0,1] (by kernel_rfl) rfl (Stl_nil rfl) rfl nb rfl (W1_callE rfl rfl rfl rfl rfl Bod.h (riskOf_sv hR hV hx.1 hx.2 hr) (fun h1 hE1=>?_))
 have hg1:=hE1.get hg
 refine Wp_eff [0,1,2,3,4] (by kernel_rfl) rfl (by refine t_m 4 ?_;refine t_l 3 ?_;exact Stl_nil rfl) rfl nb rfl (W1_callE rfl rfl rfl rfl rfl Bod.h (riskOf_sv (RowsAt.ext (R:=ReelAt) (fun x y=>ReelAt.ext x y) hR hE1) hV hy.1 hy.2 hr) (fun h2 hE2=>?_))
 have hg2:=hE2.get hg1
 refine Wp_eff [0,1,2,3,4,5] (by kernel_rfl) rfl (Stl_nil rfl) rfl nb rfl (W1_callE rfl rfl rfl rfl rfl Bod.h compare_sv (fun h3 hE3=>?_))
 have hg3:=hE3.get hg2
 refine Wp_eff [0,1,2,3,4,5,6] (by kernel_rfl) rfl (Stl_nil rfl) rfl nb rfl (W1_op rfl rfl (A_assign rfl) ?_)
 refine Wp_end (Stl_nil rfl) nb' ?_
 refine zz ?_
 exact Wc_ret (Lv_ret rfl ⟨rfl,(hE1.trans hE2).trans hE3⟩)
end Go.Dw
/- X8: contracts: the reels by their risk, part 2. -/
namespace Go.Dw
open Go Go.Dx Go.Proofs Go.Sort
set_option maxRecDepth 100000
def riskLt (t:Task)(x y:Int):Bool:=decide ((reelAt t y).risk<(reelAt t x).risk\/((reelAt t x).risk=(reelAt t y).risk/\x<y))
theorem riskLt_swo (t:Task):SWO (riskLt t):=by
 refine⟨fun x=>?_,fun x y z h1 h2=>?_,fun x y z h1 h2=>?_⟩
 ·exact decide_eq_false (by omega)
 ·have:=of_decide_eq_true h1;have:=of_decide_eq_true h2;exact decide_eq_true (by omega)
 ·have:=of_decide_eq_false h1;have:=of_decide_eq_false h2;exact decide_eq_false (by omega)
def rangeA (n:Nat):Array Int:=(ints (List.range n)).toArray
theorem rangeA_size (n:Nat):(rangeA n).size=n:=by simp[rangeA,ints]
theorem rangeA_get {n i:Nat}(h:i<n):(rangeA n)[i]! = (i:Int):=by
 rw[getElem!_pos _ _ (by rw[rangeA_size];exact h)]
 simp[rangeA,ints]
theorem ordA {t:Task}{d:Array Int}(hM:Merged (riskLt t) 0 (rangeA t.reels.length).size (rangeA t.reels.length) d):d.toList=ints (ordN t):=by
 obtain⟨⟨h1,-,h3⟩,h4⟩:=hM
 rw[rangeA_size] at h1 h3 h4
 have e1:(d.extract 0 t.reels.length).toList=d.toList:=by rw[ext_list,List.drop_zero,Nat.sub_zero,List.take_of_length_le (by rw[Array.length_toList];omega)]
 have e2:((rangeA t.reels.length).extract 0 t.reels.length).toList=ints (List.range t.reels.length):=by rw[ext_list,List.drop_zero,Nat.sub_zero,List.take_of_length_le (by rw[Array.length_toList,rangeA_size];omega)];rfl
 rw[e1,e2] at h3
 have hnn:∀x∈d.toList,0<=x:=fun x hx=>by
  obtain⟨r,_,rfl⟩:=List.mem_map.1 (h3.subset hx);omega
 have hnd:d.toList.Nodup:=h3.nodup_iff.2 (ints_nodup List.nodup_range)
 have hp:(natsL d.toList).Perm (List.range t.reels.length):=by
  have:=h3.map Int.toNat
  have e:(ints (List.range t.reels.length)).map Int.toNat=List.range t.reels.length:=natsL_cast _
  rw[e] at this
  exact this
 have hb:ByRisk t (natsL d.toList):=by
  unfold ByRisk natsL
  rw[List.pairwise_map,List.pairwise_iff_getElem]
  intro i j hi hj hij
  rw[Array.length_toList] at hi hj
  have h5:=of_decide_eq_false (h4 i j (Nat.zero_le _) hij (by omega))
  have h6:=hnn _ (List.getElem_mem (l:=d.toList) (n:=i) (by simpa using hi))
  have h7:=hnn _ (List.getElem_mem (l:=d.toList) (n:=j) (by simpa using hj))
  have h8:d.toList[i]'(by simpa using hi)≠d.toList[j]'(by simpa using hj):=fun e=>by
   have:=(List.getElem_inj (h₀:=by simpa using hi) (h₁:=by simpa using hj) hnd).1 e
   omega
  rw[getElem!_pos d i hi,getElem!_pos d j hj] at h5
  rw[Array.getElem_toList] at h6 h7
  rw[Array.getElem_toList,Array.getElem_toList] at h8 ⊢
  unfold riskN
  rw[Int.toNat_of_nonneg h6,Int.toNat_of_nonneg h7]
  omega
 have:=ord_eq hp hb
 rw[<-this]
 exact (ints_nats hnn).symm
theorem ordered_sv {t:Task}{ar:Option Addr}{cr:Nat}{h:Heap}(hw:WF h)(hR:RowsAt 5 ReelAt h ar t.reels)(hV:Valid t) :
  Sv Tryz.prog 99 [i64 t.reels.length,.func (.func 100) ⟨[.slice ar t.reels.length cr]⟩ ⟨[]⟩] h (RetP fun v h'=>FreshSl h h' v 3 1 ((ints (ordN t)).map i64) t.reels.length/\Ext h h'):=by
 have hr:=hV.r1
 refine Sv_enter Tryz.func99 rfl (by rw[Tryz.ntmps99];rfl) ?_;show Wc Tryz.prog ⟨99,23,none⟩ _ _ _ _ _
 refine zz ?_
 refine Wo_box rfl rfl rfl fun h1 hE1 hW1 hg1 hn1=>?_
 generalize h.nx=b3 at *
 refine zz ?_
 refine Wo_makeSlice (k:=t.reels.length) rfl rfl Und.h (by':=8) inferInstance Zr.h rfl rfl rfl (by omega) (by omega) fun h2 hE2 hW2 hg2 hx2=>?_
 have hge:h.nx<=h1.nx:=hE1.2.1
 have hne:b3≠h1.nx:=fun e=>by have:=hW1 _ _ hg1;omega
 generalize hbe:h1.nx=b at *
 refine zz ?_
 refine Wc_loop (fun (j:Nat) me ds h'=>ds=[]/\j<=t.reels.length/\∃L,h'.get b=some (.cells L 3 false)/\L.length=t.reels.length/\(∀i,i<j->L[i]?=some (i64 i))/\Exb (fun c=>c=b) h2 h'/\AllK me [(3,.pointer (some ⟨b3,0,none⟩)),(5,.slice (some ⟨b,0,none⟩) t.reels.length t.reels.length),(10,i64 t.reels.length),(11,i64 j)]) (fun j=>t.reels.length-j) 0 ?_ ?_
 ·refine⟨rfl,Nat.zero_le _,_,hg2,?_,(fun i hi=>by omega),Exb.refl _ _,rfl,rfl,rfl,rfl,trivial⟩
  rw[rep_length];exact Nat.mul_one _
 rintro j me ds h3 ⟨rfl,hj,L,hg3,hL,hLi,hX3,hall⟩
 refine Wc.le ?_ (Le.kn hall)
 refine zz ?_
 refine Wo_dec rfl rfl rfl rfl (A_lss rfl rfl) (fun hlt=>?_) (fun hlt=>?_)
 ·have hlt':j<t.reels.length:=by omega
  refine zz ?_
  refine Wo_do rfl rfl rfl rfl (A_ix Und.h Tsz.h rfl rfl) ?_
  refine zz ?_
  refine Wo_store rfl Tsz.h rfl rfl hg3 rfl rfl (lay_one (show 0+j*1<L.length by omega)) fun h4 hU4=>?_
  refine zz ?_
  refine⟨j+1,(by show t.reels.length-(j+1)<t.reels.length-j;omega),rfl,hlt',_,hU4.at',by rw[List.length_set];exact hL,fun i hi=>?_,hX3.upd hU4 rfl,rfl,rfl,rfl,rfl,trivial⟩
  rw[List.getElem?_set]
  by_cases e:j=i
  ·rw[if_pos (by omega),if_pos (by omega),e]
  ·rw[if_neg (by omega)];exact hLi i (by omega)
 have:j=t.reels.length:=by omega
 subst this
 have hLe:L=(rangeA t.reels.length).toList.map i64:=by
  apply List.ext_getElem?
  intro i
  by_cases hi:i<t.reels.length
  ·rw[hLi i hi];simp[rangeA,ints,hi]
  ·rw[List.getElem?_eq_none (by omega),List.getElem?_eq_none (by simp[rangeA,ints];omega)]
 subst hLe
 have hE23:Ext h1 h3:=hX3.ext hE2 hW1 fun c e=>by omega
 have hg13:=hE23.get hg1
 refine zz ?_
 let k:StabK:=⟨h3,b,t.reels.length,t.reels.length,none,false,143,[],[.pointer (some ⟨b3,0,none⟩)],fun x y=>decide (cmpI (-(reelAt t x).risk) (-(reelAt t y).risk)<0),fun x=>0<=x/\x<t.reels.length⟩
 have hk:k.OK:=by
  refine⟨Bod.h,by show t.reels.length<=1000000;omega,fun hq hX x y hx hy=>?_⟩
  have hEq:Ext h1 hq:=Exb.ext (S:=fun c=>c=b) hX hE23 hW1 fun c e=>by omega
  refine (byRisk_sv (RowsAt.ext (R:=ReelAt) (fun x y=>ReelAt.ext x y) hR (hE1.trans hEq)) hV (hEq.get hg1) hx hy (by omega)).mono fun r hr=>?_
  cases r with
  | ret v h5 =>
   obtain⟨rfl,hE5⟩:=hr
   refine⟨_,rfl,?_,hE5⟩
   show _ ↔ decide _=true
   rw[decide_eq_true_iff]
  | _=>exact hr.elim
 have hst:k.St (rangeA t.reels.length) h3:=⟨Exb.refl _ _,hg3,rangeA_size _,fun i hi=>by
  have hi:i<t.reels.length:=hi
  rw[rangeA_get hi]
  show (0:Int)<=i/\(i:Int)<t.reels.length
  omega⟩
 refine Wo_callr rfl rfl rfl rfl rfl Bod.h rfl rfl (sortStable_sv hk (riskLt_swo t) hst fun i j h5 h6=>?_) ?_
 ·rw[rangeA_size] at h6
  rw[rangeA_get h6,rangeA_get (show i<t.reels.length by omega)]
  show decide _=decide _
  unfold cmpI
  rw[decide_eq_decide]
  split
  ·omega
  ·split <;> omega
 rintro _ h6 ⟨rfl,d2,hM,hs2⟩
 have hE6:Ext h1 h6:=hs2.ex.ext hE23 hW1 fun c (e:c=b)=>by omega
 have hd:=ordA hM
 have hg6:h6.get b=some (.cells (d2.toList.map i64) 3 false):=hs2.gt
 rw[hd] at hg6
 refine zz ?_
 refine Wc_ret (Lv_ret rfl ⟨.inr ⟨b,none,false,rfl,hg6,?_,by omega,.inl rfl⟩,hE1.trans hE6⟩)
 rw[List.length_map,<-hd,Array.length_toList,hM.1.1,rangeA_size];omega
end Go.Dw
/- X9: the library's own contracts of sorting, laid at this program: the text of the kit's command shelf_lay_g, in plain words. -/
namespace Go.Dw
open Go Go.Dx Go.Proofs Go.Sort
set_option maxRecDepth 100000
def laySort_ren:Go.Shelf.Ren:=⟨fun|5=>103|8=>147|7=>146|19=>182|20=>183|10=>173|11=>174|12=>175|13=>176|14=>177|15=>178|16=>179|17=>180|18=>181|30=>209|31=>210|32=>211|33=>212|34=>213|35=>172|40=>230|n=>n,fun|23=>31|25=>3|3=>3|32=>134|22=>31|0=>0|44=>65|46=>240|4=>4|36=>233|35=>232|41=>209|5=>5|9=>9|53=>258|57=>262|63=>275|64=>276|n=>n,fun|n=>n⟩
theorem laySort:Go.Proofs.SlLaysM.n5 Tryz.prog laySort_ren:={
 mixed:=by kernel_rfl
 f5:=⟨Tryz.f103.name,by decide,Tryz.func103.trans (congrArg some (by kernel_rfl))⟩
 f7:=⟨Tryz.f146.name,by decide,Tryz.func146.trans (congrArg some (by kernel_rfl))⟩
 f8:=Tryz.func147.trans (congrArg some (by kernel_rfl))
 f10:=⟨Tryz.f173.name,by decide,Tryz.func173.trans (congrArg some (by kernel_rfl))⟩
 f11:=⟨Tryz.f174.name,by decide,Tryz.func174.trans (congrArg some (by kernel_rfl))⟩
 f12:=⟨Tryz.f175.name,by decide,Tryz.func175.trans (congrArg some (by kernel_rfl))⟩
 f13:=⟨Tryz.f176.name,by decide,Tryz.func176.trans (congrArg some (by kernel_rfl))⟩
 f14:=⟨Tryz.f177.name,by decide,Tryz.func177.trans (congrArg some (by kernel_rfl))⟩
 f15:=⟨Tryz.f178.name,by decide,Tryz.func178.trans (congrArg some (by kernel_rfl))⟩
 f16:=⟨Tryz.f179.name,by decide,Tryz.func179.trans (congrArg some (by kernel_rfl))⟩
 f17:=⟨Tryz.f180.name,by decide,Tryz.func180.trans (congrArg some (by kernel_rfl))⟩
 f18:=⟨Tryz.f181.name,by decide,Tryz.func181.trans (congrArg some (by kernel_rfl))⟩
 f19:=Tryz.func182.trans (congrArg some (by kernel_rfl))
 f20:=Tryz.func183.trans (congrArg some (by kernel_rfl))
 f30:=⟨Tryz.f209.name,by decide,Tryz.func209.trans (congrArg some (by kernel_rfl))⟩
 f31:=Tryz.func210.trans (congrArg some (by kernel_rfl))
 f32:=Tryz.func211.trans (congrArg some (by kernel_rfl))
 f33:=⟨Tryz.f212.name,by decide,Tryz.func212.trans (congrArg some (by kernel_rfl))⟩
 f34:=⟨Tryz.f213.name,by decide,Tryz.func213.trans (congrArg some (by kernel_rfl))⟩
 f35:=⟨Tryz.f172.name,by decide,Tryz.func172.trans (congrArg some (by kernel_rfl))⟩
 f40:=⟨Tryz.f230.name,by decide,Tryz.func230.trans (congrArg some (by kernel_rfl))⟩
 t0:=Tryz.underlying0
 a0:=Tryz.isAgg0
 z0:=Tryz.sizeOf0
 v0:=Tryz.zeroValue0
 t3:=Tryz.underlying3
 a3:=Tryz.isAgg3
 z3:=Tryz.sizeOf3
 v3:=Tryz.zeroValue3
 t4:=Tryz.underlying4
 a4:=Tryz.isAgg4
 z4:=Tryz.sizeOf4
 v4:=Tryz.zeroValue4
 t5:=Tryz.underlying5
 a5:=Tryz.isAgg5
 z5:=Tryz.sizeOf5
 v5:=Tryz.zeroValue5
 t9:=Tryz.underlying9
 a9:=Tryz.isAgg9
 z9:=Tryz.sizeOf9
 v9:=Tryz.zeroValue9
 t22:=Tryz.underlying31
 a22:=Tryz.isAgg31
 z22:=Tryz.sizeOf31
 v22:=Tryz.zeroValue31
 t23:=Tryz.underlying31
 a23:=Tryz.isAgg31
 z23:=Tryz.sizeOf31
 v23:=Tryz.zeroValue31
 t25:=Tryz.underlying3
 a25:=Tryz.isAgg3
 z25:=Tryz.sizeOf3
 v25:=Tryz.zeroValue3
 t32:=Tryz.underlying134
 a32:=Tryz.isAgg134
 z32:=Tryz.sizeOf134
 v32:=Tryz.zeroValue134
 t35:=Tryz.underlying232
 a35:=Tryz.isAgg232
 z35:=Tryz.sizeOf232
 v35:=Tryz.zeroValue232
 t36:=Tryz.underlying233
 a36:=Tryz.isAgg233
 z36:=Tryz.sizeOf233
 v36:=Tryz.zeroValue233
 t41:=Tryz.underlying209
 a41:=Tryz.isAgg209
 z41:=Tryz.sizeOf209
 v41:=Tryz.zeroValue209
 t44:=Tryz.underlying65
 a44:=Tryz.isAgg65
 z44:=Tryz.sizeOf65
 v44:=Tryz.zeroValue65
 t46:=Tryz.underlying240
 a46:=Tryz.isAgg240
 z46:=Tryz.sizeOf240
 v46:=Tryz.zeroValue240
 t53:=Tryz.underlying258
 a53:=Tryz.isAgg258
 z53:=Tryz.sizeOf258
 v53:=Tryz.zeroValue258
 t57:=Tryz.underlying262
 a57:=Tryz.isAgg262
 z57:=Tryz.sizeOf262
 v57:=Tryz.zeroValue262
 t63:=Tryz.underlying275
 a63:=Tryz.isAgg275
 z63:=Tryz.sizeOf275
 v63:=Tryz.zeroValue275
 t64:=Tryz.underlying276
 a64:=Tryz.isAgg276
 z64:=Tryz.sizeOf276
 v64:=Tryz.zeroValue276 }
def laySortF_ren:Go.Shelf.Ren:=⟨fun|6=>104|15=>147|14=>148|28=>182|29=>183|20=>184|21=>185|22=>186|23=>187|24=>188|25=>189|26=>190|27=>191|46=>214|47=>210|48=>211|49=>215|50=>216|57=>231|n=>n,fun|22=>36|24=>61|25=>171|3=>3|39=>134|0=>0|53=>65|55=>240|4=>4|46=>233|45=>232|50=>209|5=>5|9=>9|66=>258|70=>262|76=>275|77=>276|n=>n,fun|n=>n⟩
theorem laySortF:Go.Proofs.SlLaysF0.n6 Tryz.prog laySortF_ren:={
 mixed:=by kernel_rfl
 f6:=⟨Tryz.f104.name,by decide,Tryz.func104.trans (congrArg some (by kernel_rfl))⟩
 f14:=⟨Tryz.f148.name,by decide,Tryz.func148.trans (congrArg some (by kernel_rfl))⟩
 f15:=Tryz.func147.trans (congrArg some (by kernel_rfl))
 f20:=⟨Tryz.f184.name,by decide,Tryz.func184.trans (congrArg some (by kernel_rfl))⟩
 f21:=⟨Tryz.f185.name,by decide,Tryz.func185.trans (congrArg some (by kernel_rfl))⟩
 f22:=⟨Tryz.f186.name,by decide,Tryz.func186.trans (congrArg some (by kernel_rfl))⟩
 f23:=⟨Tryz.f187.name,by decide,Tryz.func187.trans (congrArg some (by kernel_rfl))⟩
 f24:=⟨Tryz.f188.name,by decide,Tryz.func188.trans (congrArg some (by kernel_rfl))⟩
 f25:=⟨Tryz.f189.name,by decide,Tryz.func189.trans (congrArg some (by kernel_rfl))⟩
 f26:=⟨Tryz.f190.name,by decide,Tryz.func190.trans (congrArg some (by kernel_rfl))⟩
 f27:=⟨Tryz.f191.name,by decide,Tryz.func191.trans (congrArg some (by kernel_rfl))⟩
 f28:=Tryz.func182.trans (congrArg some (by kernel_rfl))
 f29:=Tryz.func183.trans (congrArg some (by kernel_rfl))
 f46:=⟨Tryz.f214.name,by decide,Tryz.func214.trans (congrArg some (by kernel_rfl))⟩
 f47:=Tryz.func210.trans (congrArg some (by kernel_rfl))
 f48:=Tryz.func211.trans (congrArg some (by kernel_rfl))
 f49:=⟨Tryz.f215.name,by decide,Tryz.func215.trans (congrArg some (by kernel_rfl))⟩
 f50:=⟨Tryz.f216.name,by decide,Tryz.func216.trans (congrArg some (by kernel_rfl))⟩
 f57:=⟨Tryz.f231.name,by decide,Tryz.func231.trans (congrArg some (by kernel_rfl))⟩
 t0:=Tryz.underlying0
 a0:=Tryz.isAgg0
 z0:=Tryz.sizeOf0
 v0:=Tryz.zeroValue0
 t3:=Tryz.underlying3
 a3:=Tryz.isAgg3
 z3:=Tryz.sizeOf3
 v3:=Tryz.zeroValue3
 t4:=Tryz.underlying4
 a4:=Tryz.isAgg4
 z4:=Tryz.sizeOf4
 v4:=Tryz.zeroValue4
 t5:=Tryz.underlying5
 a5:=Tryz.isAgg5
 z5:=Tryz.sizeOf5
 v5:=Tryz.zeroValue5
 t9:=Tryz.underlying9
 a9:=Tryz.isAgg9
 z9:=Tryz.sizeOf9
 v9:=Tryz.zeroValue9
 t22:=Tryz.underlying36
 a22:=Tryz.isAgg36
 z22:=Tryz.sizeOf36
 v22:=Tryz.zeroValue36
 t25:=Tryz.underlying171
 a25:=Tryz.isAgg171
 z25:=Tryz.sizeOf171
 v25:=Tryz.zeroValue171
 t39:=Tryz.underlying134
 a39:=Tryz.isAgg134
 z39:=Tryz.sizeOf134
 v39:=Tryz.zeroValue134
 t45:=Tryz.underlying232
 a45:=Tryz.isAgg232
 z45:=Tryz.sizeOf232
 v45:=Tryz.zeroValue232
 t46:=Tryz.underlying233
 a46:=Tryz.isAgg233
 z46:=Tryz.sizeOf233
 v46:=Tryz.zeroValue233
 t50:=Tryz.underlying209
 a50:=Tryz.isAgg209
 z50:=Tryz.sizeOf209
 v50:=Tryz.zeroValue209
 t53:=Tryz.underlying65
 a53:=Tryz.isAgg65
 z53:=Tryz.sizeOf65
 v53:=Tryz.zeroValue65
 t55:=Tryz.underlying240
 a55:=Tryz.isAgg240
 z55:=Tryz.sizeOf240
 v55:=Tryz.zeroValue240
 t66:=Tryz.underlying258
 a66:=Tryz.isAgg258
 z66:=Tryz.sizeOf258
 v66:=Tryz.zeroValue258
 t70:=Tryz.underlying262
 a70:=Tryz.isAgg262
 z70:=Tryz.sizeOf262
 v70:=Tryz.zeroValue262
 t76:=Tryz.underlying275
 a76:=Tryz.isAgg275
 z76:=Tryz.sizeOf275
 v76:=Tryz.zeroValue275
 t77:=Tryz.underlying276
 a77:=Tryz.isAgg276
 z77:=Tryz.sizeOf276
 v77:=Tryz.zeroValue276 }
end Go.Dw
