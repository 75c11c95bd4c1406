/- E1: contracts: the library's stable sort of records, part 1: insertion, exchanging ranges. -/
import Derived.Test.YtdfadhkbhbbabaaGreatDoorAG2
import Derived.Test.YtdfadhkbhbbabaaGreatDoorAG17
import Derived.Test.YtdfadhkbhbbabaaGreatDoorAG18
import Derived.Test.YtdfadhkbhbbabaaGreatDoorAG4
set_option linter.unusedVariables false
set_option linter.unusedSimpArgs false
namespace Go.Dw
open Go Go.Dx Go.Proofs Go.Sort
set_option maxRecDepth 100000
structure ZDd where
 h0:Heap
 b:Nat
 n:Nat
 cap:Nat
 sp:Option Nat
 op:Bool
 g:FuncId
 fc:List Value
 cc:List Value
 less:WkR->WkR->Bool
 D:WkR->Prop
structure ZDd.OK (k:ZDd):Prop where
 bd:ZAp Tryz.prog k.g=true
 sm:k.n<=1000000
 cmp:∀h1,Exb (fun c=>c=k.b) k.h0 h1->∀x y,k.D x->k.D y->Sv Tryz.prog k.g (k.fc++([encW x,encW y]++k.cc)) h1 (RetP fun v h'=>∃c,v=i64 c/\(c<0 ↔ k.less x y=true)/\Ext h1 h')
structure ZDd.St (k:ZDd)(d:Array WkR)(h:Heap):Prop where
 ex:Exb (fun c=>c=k.b) k.h0 h
 gt:h.get k.b=some (.cells (d.toList.flatMap rowW) 45 k.op)
 sz:d.size=k.n
 dom:∀i,i<k.n->k.D d[i]!
abbrev ZDd.v (k:ZDd):Value:=.slice (some ⟨k.b,0,k.sp⟩) k.n k.cap
abbrev ZDd.f (k:ZDd):Value:=.func (.func k.g) ⟨k.fc⟩ ⟨k.cc⟩
section
variable {k:ZDd}{d:Array WkR}{h h1 h2:Heap}{i j:Nat}
theorem ZDd.St.row (s:k.St d h)(hi:i<k.n):ZAw h k.b (0+i*6) 6=some (rowW d[i]!):=by
 have hi':i<d.size:=by rw[s.sz];exact hi
 unfold ZAw;rw[s.gt,Nat.zero_add]
 show cut _ _ _=_
 rw[ZCA (f:=rowW) (k:=6) (P:=d.toList) (by simpa using hi') fun _ _=>rfl,getElem!_pos d i hi',Array.getElem_toList]
theorem ZDA {l:List WkR}{i:Nat}(hi:i<l.length)(y:WkR):lay (l.flatMap rowW) (0+i*6) (rowW y)=some ((l.set i y).flatMap rowW):=by
 have hfl:∀l:List WkR,(l.flatMap rowW).length=l.length*6:=fun l=>ZBe (enc:=rowW) (k:=6) (fun _=>rfl) l;rw[Nat.zero_add,ZCg (by rw[hfl];show i*6+6<=l.length*6;omega)]
 congr 1
 rw[List.set_eq_take_append_cons_drop,if_pos hi,List.flatMap_append,List.flatMap_cons];have e1:(l.flatMap rowW).take (i*6)=(l.take i).flatMap rowW:=by
  conv=>lhs;rw[<-List.take_append_drop i l,List.flatMap_append]
  exact List.take_left' (by rw[hfl,List.length_take,Nat.min_eq_left (by omega)])
 have e2:(l.flatMap rowW).drop (i*6+6)=(l.drop (i+1)).flatMap rowW:=by
  conv=>lhs;rw[<-List.take_append_drop (i+1) l,List.flatMap_append]
  exact List.drop_left' (by rw[hfl,List.length_take,Nat.min_eq_left (by omega)];omega)
 rw[e1]
 show _++(rowW y++(l.flatMap rowW).drop (i*6+6))=_
 rw[e2]
theorem ZDd.St.ext (s:k.St d h)(he:Ext h h1):k.St d h1:=⟨s.ex.trans (Exb.of he),he.get s.gt,s.sz,s.dom⟩
theorem ZDd.St.swp (s:k.St d h)(hi:i<k.n)(hj:j<k.n)(hU1:Upd h k.b (.cells ((d.toList.set i d[j]!).flatMap rowW) 45 k.op) h1)(hU2:Upd h1 k.b (.cells (((d.toList.set i d[j]!).set j d[i]!).flatMap rowW) 45 k.op) h2):k.St (Go.Sort.swp d i j) h2:=by
 refine⟨(s.ex.trans (Exb.ofUpd hU1)).trans (Exb.ofUpd hU2),?_,by rw[size_swp];exact s.sz,fun t ht=>?_⟩
 ·rw[hU2.at']
  congr 2
  unfold Go.Sort.swp;simp only[Array.toList_setIfInBounds]
 ·rw[swp_get d (by rw[s.sz];exact hi) (by rw[s.sz];exact hj)]
  split
  ·exact s.dom _ hi
  ·split
   ·exact s.dom _ hj
   ·exact s.dom _ ht
end
set_option maxHeartbeats 4000000 in
theorem ZKt {k:ZDd}(hk:k.OK){d:Array WkR}{h:Heap}{a b n:Nat}(hs:k.St d h)(hab:a+n<=b)(hb:b+n<=k.n) :
  Sv Tryz.prog 207 [k.v,i64 a,i64 b,i64 n,k.f] h (RetP fun v h'=>v=.tuple ⟨[]⟩/\∃d',Swr a b n d d'/\k.St d' h'):=by
 have hsm:=hk.sm;refine ZAG Tryz.func207 rfl (by rw[Tryz.ntmps207];rfl) ?_;show Wc Tryz.prog ⟨207,38,none⟩ _ _ _ _ _;refine zy ?_;refine ZAN (fun (i:Nat) m ds h'=>ds=[]/\i<=n/\∃d',Swr a b i d d'/\k.St d' h'/\AllK m [(0,k.v),(1,i64 a),(2,i64 b),(3,i64 n),(10,i64 i)]) (fun i=>n-i) 0 ?_ ?_
 ·exact⟨rfl,Nat.zero_le _,d,ZSJ _ _ _,hs,rfl,rfl,rfl,rfl,rfl,trivial⟩
 clear hs;rintro i m ds h1 ⟨rfl,hi,d1,hS,hs,hall⟩;refine Wc.le ?_ (Le.kn hall);refine zy ?_;refine zC (ZAU rfl rfl) (fun hip=>?_) (fun hip=>?_);rotate_left
 ·have:i=n:=by omega
  subst this;refine zy ?_;exact ZAz rfl ⟨rfl,d1,hS,hs⟩
 have hi':i<n:=by omega
 have hc1:=hs.row (i:=a+i) (by omega);have hc2:=hs.row (i:=b+i) (by omega);have hg:=hs.gt;refine zy ?_;refine ZAL hmix [0,0,0,6,0,0,0,96,0,0,0,1536,3840,7936,0,0,0,98304,245760,507904,1048335,2096911,4194303,8388607] [0,1,2,3,4,5,6,7,8,9,10,11,12,13,14,15,16,17,18,19,20] (some 21) [([22],(some 23)),([],none)] (by kernel_rfl) (by kernel_rfl) ?_;refine z_m ?_;refine z_m ?_;refine z_m ?_;refine z_y ?_;refine z_m ?_;refine z_m ?_;refine z_m ?_;refine z_y ?_;refine z_m ?_;refine z_m ?_;refine z_m ?_;refine z_y ?_;refine ZAB rfl rfl rfl rfl rfl (fun _=>ZAE (k:=b+i) (z:=((b:Nat):Int)+(i:Nat)) Und.h Tsz.h rfl rfl (by omega) (by omega)) ?_;refine z_r ?_;refine z_m ?_;refine z_m ?_;refine z_m ?_;refine z_y ?_;refine ZAB rfl rfl rfl rfl rfl (fun _=>ZAE (k:=a+i) (z:=((a:Nat):Int)+(i:Nat)) Und.h Tsz.h rfl rfl (by omega) (by omega)) ?_;refine z_r ?_;refine ZAB rfl rfl rfl rfl rfl (fun _=>ZAE (k:=a+i) (z:=((a:Nat):Int)+(i:Nat)) Und.h Tsz.h rfl rfl (by omega) (by omega)) ?_
 refine ZAI [0,1,2,3,8,9,10,11,12,13,14,15,16,17,18,19,20] (by kernel_rfl) rfl (ZAA rfl) rfl nb rfl (ZA1 rfl rfl Tsz.h rfl rfl hg rfl rfl (ZDA (by have:=hs.sz;simp only[List.length_set,Array.length_toList];omega) _) (fun h2 hU2=>?_));refine ZAB rfl rfl rfl rfl rfl (fun _=>ZAE (k:=b+i) (z:=((b:Nat):Int)+(i:Nat)) Und.h Tsz.h rfl rfl (by omega) (by omega)) ?_;refine ZAI [0,1,2,3,4,5,6,7,8,9,10,11,12,13,14,15,16,17,18,19,20,21,22] (by kernel_rfl) rfl (by refine t_y 7 ?_;refine t_m 6 ?_;refine t_m 5 ?_;refine t_m 4 ?_;exact ZAA rfl) rfl nb rfl (ZA1 rfl rfl Tsz.h rfl rfl hU2.at' rfl rfl (ZDA (by have:=hs.sz;simp only[List.length_set,Array.length_toList];omega) _) (fun h3 hU3=>?_))
 refine ZAO (ZAA rfl) nb' ?_;have hsz:=hs.sz;have hs3:=hs.swp (i:=a+i) (j:=b+i) (by omega) (by omega) hU2 hU3;refine zy ?_;exact⟨i+1,(by show n-(i+1)<n-i;omega),rfl,hi',_,ZR0 hS (by omega) (by rw[<-hS.size,hs.sz];omega),hs3,rfl,rfl,rfl,rfl,rfl,trivial⟩
theorem ZD2 {k:ZDd}(hk:k.OK){d:Array WkR}{h:Heap}{a b n:Nat}{x y z:Int}(hx:x=a)(hy:y=b)(hz:z=n)(hs:k.St d h)(hab:a+n<=b)(hb:b+n<=k.n) :
  Sv Tryz.prog 207 [k.v,i64 x,i64 y,i64 z,k.f] h (RetP fun v h'=>v=.tuple ⟨[]⟩/\∃d',Swr a b n d d'/\k.St d' h'):=by
 subst hx hy hz;exact ZKt hk hs hab hb
theorem ZPM {k:ZDd}(hk:k.OK){d:Array WkR}{h:Heap}{a m b:Nat}{x y z:Int}(hx:x=a)(hy:y=m)(hz:z=b)(hs:k.St d h)(ham:a<m)(hmb:m<b)(hb:b<=k.n) :
  Sv Tryz.prog 180 [k.v,i64 x,i64 y,i64 z,k.f] h (RetP fun v h'=>v=.tuple ⟨[]⟩/\∃d',Rot a m b d d'/\k.St d' h'):=by
 have hsm:=hk.sm;subst hx hy hz;refine ZAG Tryz.func180 rfl (by rw[Tryz.ntmps180];rfl) ?_;show Wc Tryz.prog ⟨180,58,none⟩ _ _ _ _ _;refine zy ?_;refine ZAN (fun (s:Nat×Nat) me ds h'=>ds=[]/\a<=s.1/\s.1<m/\m<s.2/\s.2<=b/\∃(d1:Array WkR) (x y:Int),x=(m:Int)-s.1/\y=(s.2:Int)-m/\(∀d2,Rot s.1 m s.2 d1 d2->Rot a m b d d2)/\k.St d1 h'/\AllK me [(0,k.v),(1,i64 a),(2,i64 m),(3,i64 b),(4,k.f),(10,i64 x),(11,i64 y)]) (fun s=>s.2-s.1) (a,b) ?_ ?_
 ·exact⟨rfl,Nat.le_refl _,ham,hmb,Nat.le_refl _,d,_,_,rfl,rfl,fun _ h=>h,hs,rfl,rfl,rfl,rfl,rfl,rfl,rfl,trivial⟩
 clear hs;rintro⟨a',b'⟩ me ds h1 ⟨rfl,ha,ham',hmb',hb',d1,x,y,hx,hy,hR,hs,hall⟩;simp only at ha ham' hmb' hb' hx hy hR;refine Wc.le ?_ (Le.kn hall);have hsz:=hs.sz;refine zy ?_;refine zC (ZAh rfl rfl) (fun hne=>?_) (fun hne=>?_);rotate_left
 ·have hne:x=y:=Classical.not_not.1 hne
  refine zy ?_;refine ZAa rfl rfl rfl rfl rfl Bod.h rfl rfl (ZD2 hk (a:=a') (b:=m) (n:=m-a') (by omega) rfl (by omega) hs (by omega) (by omega)) ?_;rintro _ h2 ⟨rfl,d2,hS2,hs2⟩;refine zy ?_;exact ZAz rfl ⟨rfl,d2,hR _ (ZTo (by omega) (by omega) (by omega) hS2),hs2⟩
 refine zy ?_;refine zC (ZA4 rfl rfl) (fun hgt=>?_) (fun hgt=>?_)
 ·refine zy ?_
  refine ZAa rfl rfl rfl rfl rfl Bod.h rfl rfl (ZD2 hk (a:=a') (b:=m) (n:=b'-m) (by omega) rfl (by omega) hs (by omega) (by omega)) ?_;rintro _ h2 ⟨rfl,d2,hS2,hs2⟩;refine zy ?_;exact⟨(a'+(b'-m),b'),(by show b'-(a'+(b'-m))<b'-a';omega),rfl,(by show a<=a'+(b'-m);omega),(by show a'+(b'-m)<m;omega),hmb',hb',d2,_,_,(by show x-y=(m:Int)-((a'+(b'-m):Nat):Int);omega),hy,(fun d3 h3=>hR _ (ZSi rfl (by omega) (by omega) (by omega) hS2 h3)),hs2,rfl,rfl,rfl,rfl,rfl,rfl,rfl,trivial⟩
 ·refine zy ?_
  refine ZAa rfl rfl rfl rfl rfl Bod.h rfl rfl (ZD2 hk (a:=a') (b:=b'-(m-a')) (n:=m-a') (by omega) (by omega) (by omega) hs (by omega) (by omega)) ?_;rintro _ h2 ⟨rfl,d2,hS2,hs2⟩;refine zy ?_;exact⟨(a',b'-(m-a')),(by show b'-(m-a')-a'<b'-a';omega),rfl,ha,ham',(by show m<b'-(m-a');omega),(by show b'-(m-a')<=b;omega),d2,_,_,hx,(by show y-x=((b'-(m-a'):Nat):Int)-m;omega),(fun d3 h3=>hR _ (ZRV rfl (by omega) (by omega) (by omega) hS2 h3)),hs2,rfl,rfl,rfl,rfl,rfl,rfl,rfl,trivial⟩
abbrev xE31:List Nat:=[0,0,3,7,15,15,15,111,239,15,15,1039,3599,7695,16383,32767,65535]
abbrev xE34:List Nat:=[0,1,2,3,4,5,6,7,8,9,10,11,12,13]
theorem ZFQ {less:WkR->WkR->Bool}{a j:Nat}{d:Array WkR}(h:¬(j > a/\less d[j]! d[j-1]! = true)):insInner less a j d=d:=by
 cases j with
 | zero=>unfold insInner;rfl
 | succ j =>
  unfold insInner;rw[if_neg];simp only[Bool.and_eq_true,decide_eq_true_eq];exact h
theorem ZMK {less:WkR->WkR->Bool}{a j:Nat}{d:Array WkR}(h1:j > a)(h2:less d[j]! d[j-1]! = true):insInner less a j d=insInner less a (j-1) (swp d j (j-1)):=by
 cases j with
 | zero=>omega
 | succ j =>
  conv=>lhs;unfold insInner
  rw[if_pos]
  ·rfl
  ·simp only[Bool.and_eq_true,decide_eq_true_eq]
   exact⟨h1,h2⟩
set_option maxHeartbeats 4000000 in
theorem ZGu {k:ZDd}(hk:k.OK){d:Array WkR}{h:Heap}{a b:Nat}{x y:Int}(hx:x=a)(hy:y=b)(hs:k.St d h)(hab:a<=b)(hb:b<=k.n) :
  Sv Tryz.prog 144 [k.v,i64 x,i64 y,k.f] h (RetP fun v h'=>v=.tuple ⟨[]⟩/\k.St (insertionSort k.less d a b) h'):=by
 have hsm:=hk.sm;subst hx hy;refine ZAG Tryz.func144 rfl (by rw[Tryz.ntmps144];rfl) ?_;show Wc Tryz.prog ⟨144,53,none⟩ _ _ _ _ _;refine zy ?_;refine ZAN (fun (i:Nat) me ds h'=>ds=[]/\a+1<=i/\i<=b+1/\∃(d1:Array WkR),insOuter k.less a b i d1=insertionSort k.less d a b/\k.St d1 h'/\AllK me [(0,k.v),(1,i64 a),(2,i64 b),(3,k.f),(8,i64 i)]) (fun i=>b+1-i) (a+1) ?_ ?_
 ·exact⟨rfl,Nat.le_refl _,by omega,d,rfl,hs,rfl,rfl,rfl,rfl,rfl,trivial⟩
 clear hs;rintro i me ds h1 ⟨rfl,hi0,hi1,d1,hD,hs,hall⟩;refine Wc.le ?_ (Le.kn hall);refine zy ?_;refine zC (ZAU rfl rfl) (fun hip=>?_) (fun hip=>?_);rotate_left
 ·have hD':d1=insertionSort k.less d a b:=by
   rw[<-hD];unfold insOuter;rw[if_neg (by omega)]
  refine zy ?_;exact ZAz rfl ⟨rfl,by rw[<-hD'];exact hs⟩
 have hi':i<b:=by omega
 refine zy ?_;refine ZAN (fun (j:Nat) me ds h'=>ds=[]/\a<=j/\j<=i/\∃(d2:Array WkR),insInner k.less a j d2=insInner k.less a i d1/\k.St d2 h'/\AllK me [(0,k.v),(1,i64 a),(2,i64 b),(3,k.f),(8,i64 i),(9,i64 j)]) (fun j=>j) i ?_ ?_
 ·exact⟨rfl,by omega,Nat.le_refl _,d1,rfl,hs,rfl,rfl,rfl,rfl,rfl,rfl,trivial⟩
 clear hs hall;clear h1 me;rintro j me ds h1 ⟨rfl,hj0,hj1,d2,hI,hs,hall⟩;have hsz:=hs.sz
 have hout:insInner k.less a j d2=d2->insOuter k.less a b (i+1) d2=insertionSort k.less d a b:=fun e=>by
  rw[<-hD]
  conv=>rhs;unfold insOuter
  rw[if_pos hi',<-hI,e]
 refine Wc.le ?_ (Le.kn hall)
 by_cases hja:j > a
 rotate_left
 ·refine zy ?_
  refine ZAL hmix xE31 xE34 (some 14) [([15,16],none)] (by kernel_rfl) (by kernel_rfl) ?_;refine z_m ?_;refine z_m ?_;refine ZAB rfl rfl rfl rfl rfl (fun _=>A_ff (by omega) (ZA4 rfl rfl)) ?_;refine z_m ?_;refine z_o ?_;refine z_o ?_;refine z_o ?_;refine z_o ?_;refine z_o ?_;refine z_o ?_;refine z_o ?_;refine z_o ?_;refine z_o ?_;refine z_o ?_;refine ZAI xE34 (by kernel_rfl) rfl (ZAA rfl) rfl nb rfl (ZCq rfl ?_);refine z_o ?_;refine z_p ?_;refine ZAO (ZAA rfl) nb' ?_;refine zy ?_;exact⟨i+1,(by show b+1-(i+1)<b+1-i;omega),rfl,(by show a+1<=i+1;omega),(by show i+1<=b+1;omega),d2,hout (ZFQ fun g=>hja g.1),hs,rfl,rfl,rfl,rfl,rfl,trivial⟩
 have hc1:=hs.row (i:=j) (by omega);have hc2:=hs.row (i:=j-1) (by omega);have hcm:=hk.cmp h1 hs.ex d2[j]! d2[j-1]! (hs.dom _ (by omega)) (hs.dom _ (by omega));refine zy ?_;refine ZAL hmix xE31 xE34 (some 14) [([15,16],none)] (by kernel_rfl) (by kernel_rfl) ?_;refine z_m ?_;refine z_m ?_;refine ZAB rfl rfl rfl rfl rfl (fun _=>A_tt (by omega) (ZA4 rfl rfl)) ?_;refine z_m ?_;refine g_m ?_;refine g_m ?_;refine g_m ?_;refine g_i ?_;refine g_r ?_;refine g_m ?_;refine g_m ?_;refine g_u ?_
 first|refine ZAT rfl rfl rfl rfl ?_|refine ZAB rfl rfl rfl rfl rfl (fun _=>ZAE (k:=j-1) (z:=((j:Nat):Int)-1) Und.h Tsz.h rfl rfl (by omega) (by omega)) ?_
 refine g_r ?_;refine ZAI xE34 (by kernel_rfl) rfl (ZAA rfl) rfl nb rfl (ZEO rfl rfl rfl rfl rfl hk.bd hcm (fun v5 h5 hv=>?_) (fun _ _ hR=>hR.elim));obtain⟨c,rfl,hcl,hE5⟩:=hv;replace hs:=hs.ext hE5;refine ZNo rfl rfl rfl rfl rfl (fun _=>ZAU rfl rfl) (fun hcc=>?_) (fun hcc=>?_)
 ·refine z_p ?_
  refine ZAO (ZAA rfl) nb' ?_;have hg:=hs.gt;have hcj1:=hs.row (i:=j) (by omega);have hcj2:=hs.row (i:=j-1) (by omega);refine zy ?_;refine ZAL hmix [0,0,0,0,8,0,0,64,224,480,0,0,3072,7168,16355,32739,65535,131071] [0,1,2,3,4,5,6,7,8,9,10,11,12,13,14] (some 15) [([16],(some 17)),([],none)] (by kernel_rfl) (by kernel_rfl) ?_;refine z_m ?_;refine z_m ?_;refine z_m ?_;refine z_m ?_;refine z_u ?_;refine z_m ?_;refine z_m ?_;refine z_u ?_;refine ZAB rfl rfl rfl rfl rfl (fun _=>ZAE (k:=j-1) (z:=((j:Nat):Int)-1) Und.h Tsz.h rfl rfl (by omega) (by omega)) ?_;refine z_r ?_;refine z_m ?_;refine z_m ?_;refine z_i ?_;refine z_r ?_;refine z_i ?_
  refine ZAI [0,1,5,6,7,8,9,10,11,12,13,14] (by kernel_rfl) rfl (ZAA rfl) rfl nb rfl (ZA1 rfl rfl Tsz.h rfl rfl hg rfl rfl (ZDA (by have:=hs.sz;simp only[List.length_set,Array.length_toList];omega) _) (fun h2 hU2=>?_));refine ZAB rfl rfl rfl rfl rfl (fun _=>ZAE (k:=j-1) (z:=((j:Nat):Int)-1) Und.h Tsz.h rfl rfl (by omega) (by omega)) ?_;refine ZAI [0,1,2,3,4,5,6,7,8,9,10,11,12,13,14,15,16] (by kernel_rfl) rfl (by refine t_u 4 ?_;refine t_m 3 ?_;refine t_m 2 ?_;exact ZAA rfl) rfl nb rfl (ZA1 rfl rfl Tsz.h rfl rfl hU2.at' rfl rfl (ZDA (by have:=hs.sz;simp only[List.length_set,Array.length_toList];omega) _) (fun h3 hU3=>?_))
  refine ZAO (ZAA rfl) nb' ?_;have hs3:=hs.swp (i:=j) (j:=j-1) (by omega) (by omega) hU2 hU3;refine zy ?_;refine⟨j-1,(by show j-1<j;omega),rfl,(by show a<=j-1;omega),(by show j-1<=i;omega),_,(ZMK hja (hcl.1 hcc)).symm.trans hI,hs3,rfl,rfl,rfl,rfl,rfl,?_,trivial⟩
  show some (Value.int .i64 (((j:Nat):Int)-1))=some (i64 ((j-1:Nat):Int))
  congr 2
  omega
 ·refine z_p ?_
  refine ZAO (ZAA rfl) nb' ?_;refine zy ?_;exact⟨i+1,(by show b+1-(i+1)<b+1-i;omega),rfl,(by show a+1<=i+1;omega),(by show i+1<=b+1;omega),d2,hout (ZFQ fun g=>hcc (hcl.2 g.2)),hs,rfl,rfl,rfl,rfl,rfl,trivial⟩
abbrev xE41:List Nat:=[0,0,0,0,8,0,0,64,224,480,0,0,3072,7168,16355,32739,65535,131071]
abbrev xE44:List Nat:=[0,1,2,3,4,5,6,7,8,9,10,11,12,13,14,15,16]
abbrev xE45:List Nat:=[0,1,2,3,4,5,6,7,8,9,10,11,12,13,14]
abbrev xE46:List Nat:=[0,1,2,3,4,5,6,7,8,9,10]
abbrev xE47:List Nat:=[0,1,2,3,4,5,6,7,8]
abbrev xE48:List Nat:=[0,1,5,6,7,8,9,10,11,12,13,14]
section
variable {P:Program}{m:Mem}{h:Heap}{d:Option Tmp}{ty:TypeId}{pos:String}{af:Array Edge}{gu:Option (Nat×Bool)}
theorem ZNf {t tz:TypeId}{x y:Operand}{k k':IntKind}{a b z:Int}(hx:opk h m x=some (.int k a))(hy:opk h m y=some (.int k' b))(hb:0<=b)(hv:a.fdiv (2 ^ (min b.toNat k.bits))=z):Aop P ⟨d,.binOp .shr t x y tz,ty,pos,af,gu⟩ m h (.int k z) h:=hv ▸ ZVm hx hy hb
end
theorem cv1 {i j:Nat}(h:i+j<4000000):IntKind.u64.wrap ((i:Int)+(j:Int))=((i+j:Nat):Int):=by
 simp[IntKind.wrap,IntKind.bits,IntKind.signed];omega
theorem cv2 {i j:Nat}:(((i+j:Nat):Int)).fdiv (2 ^ (min (1:Int).toNat IntKind.u64.bits))=(((i+j) / 2:Nat):Int):=by
 have:(2:Int) ^ (min (1:Int).toNat IntKind.u64.bits)=2:=by decide
 rw[this,Int.fdiv_eq_ediv_of_nonneg _ (by omega)];omega
theorem cv3 {i j:Nat}(h:i+j<4000000):IntKind.i64.wrap (((i+j) / 2:Nat):Int)=(((i+j) / 2:Nat):Int):=by
 have h2:(i+j) / 2<4000000:=by omega
 generalize (i+j) / 2=q at *;simp[IntKind.wrap,IntKind.bits,IntKind.signed];omega
theorem ZUz {a k:Nat}{d d1:Array WkR}(h:Rot a (a+1) (k+1) d d1)(hak:a<=k)(hk:k+1<d.size):Rot a (a+1) (k+2) d (Go.Sort.swp d1 k (k+1)):=by
 have hs:=h.size;refine⟨by rw[size_swp];exact hs,fun i hi=>?_,fun i hi=>?_,fun i hi=>?_⟩
 ·rw[swp_get d1 (by omega) (by omega),if_neg (by omega),if_neg (by omega)];exact h.same i (by omega)
 ·rw[swp_get d1 (by omega) (by omega)]
  by_cases e:a+i=k
  ·rw[if_neg (by omega),if_pos e,h.same (k+1) (by omega)];congr 1;omega
  ·rw[if_neg (by omega),if_neg e];exact h.fst i (by omega)
 ·have:i=0:=by omega
  subst this;rw[swp_get d1 (by omega) (by omega),if_pos (by omega)];have:=h.snd 0 (by omega);rw[<-this];congr 1;omega
theorem ZR1 {m k:Nat}{d d1:Array WkR}(h:Rot (k+1) m (m+1) d d1)(hkm:k<m)(hk:m<d.size):Rot k m (m+1) d (Go.Sort.swp d1 (k+1) k):=by
 have hs:=h.size;refine⟨by rw[size_swp];exact hs,fun i hi=>?_,fun i hi=>?_,fun i hi=>?_⟩
 ·rw[swp_get d1 (by omega) (by omega),if_neg (by omega),if_neg (by omega)];exact h.same i (by omega)
 ·have:i=0:=by omega
  subst this;rw[swp_get d1 (by omega) (by omega),if_pos (by omega)];have:=h.fst 0 (by omega);rw[<-this]
 ·rw[swp_get d1 (by omega) (by omega)]
  by_cases e:i=0
  ·subst e
   rw[if_neg (by omega),if_pos (by omega),h.same k (by omega)];congr 1
  ·rw[if_neg (by omega),if_neg (by omega)]
   have:=h.snd (i-1) (by omega);rw[show k+1+(m+1-m)+(i-1)=k+(m+1-m)+i by omega,show k+1+(i-1)=k+i by omega] at this;exact this
set_option maxHeartbeats 16000000 in
theorem ZIA {k:ZDd}(hk:k.OK){lt:WkR->WkR->Bool}(hW:SWO lt):∀(N:Nat){d:Array WkR}{h:Heap}{a m b:Nat}{x y z:Int},b-a=N->x=a->y=m->z=b->k.St d h->a<m->m<b->b<=k.n->ZHP k.less lt a m b d->SortedIn lt a m d->SortedIn lt m b d →
  Sv Tryz.prog 145 [k.v,i64 x,i64 y,i64 z,k.f] h (RetP fun v h'=>v=.tuple ⟨[]⟩/\∃d',ZBt lt a b d d'/\k.St d' h'):=by
 have hsm:=hk.sm;intro N
 induction N using Nat.strongRecOn with
 | ind N ih0 =>
 have ih:∀M,M<N->∀{d:Array WkR} {h:Heap} {a mm b:Nat} {x y z:Int},b-a=M->x=a->y=mm->z=b->k.St d h->a<mm->mm<b->b<=k.n->ZHP k.less lt a mm b d->SortedIn lt a mm d->SortedIn lt mm b d →
   Sv Tryz.prog 145 [k.v,i64 x,i64 y,i64 z,k.f] h (RetP fun v h'=>v=.tuple ⟨[]⟩/\∃d',ZBt lt a b d d'/\k.St d' h'):=fun M hM=>ih0 M hM
 clear ih0;intro d h a m b x y z hN hx hy hz hs ham hmb hbn hA hL hR;subst hx hy hz;have hsz:=hs.sz;have hno:∀x y z,lt x y=false->lt y z=false->lt x z=false:=hW.ntrans
 have up1:∀q,m<=q->q<b->k.less d[q]! d[a]! = true->∀c,m<=c->c<=q->k.less d[c]! d[a]! = true:=fun q h1 h2 h3 c h4 h5=>by
  rw[hA a q (Nat.le_refl _) ham h1 h2] at h3;rw[hA a c (Nat.le_refl _) ham h4 (by omega)]
  by_cases e:c=q
  ·rw[e];exact h3
  ·cases hq:lt d[c]! d[a]! with
   | true=>rfl
   | false=>rw[hno _ _ _ (hR c q h4 (by omega) h2) hq] at h3;cases h3
 have dn1:∀q,m<=q->q<b->k.less d[q]! d[a]! = false->∀c,q<=c->c<b->k.less d[c]! d[a]! = false:=fun q h1 h2 h3 c h4 h5=>by
  rw[hA a q (Nat.le_refl _) ham h1 h2] at h3;rw[hA a c (Nat.le_refl _) ham (by omega) h5]
  by_cases e:c=q
  ·rw[e];exact h3
  ·exact hno _ _ _ (hR q c h1 (by omega) h5) h3
 have up2:∀q,a<=q->q<m->k.less d[m]! d[q]! = true->∀c,q<=c->c<m->k.less d[m]! d[c]! = true:=fun q h1 h2 h3 c h4 h5=>by
  rw[hA q m h1 h2 (Nat.le_refl _) hmb] at h3;rw[hA c m (by omega) h5 (Nat.le_refl _) hmb]
  by_cases e:c=q
  ·rw[e];exact h3
  ·cases hq:lt d[m]! d[c]! with
   | true=>rfl
   | false=>rw[hno _ _ _ hq (hL q c h1 (by omega) h5)] at h3;cases h3
 have dn2:∀q,a<=q->q<m->k.less d[m]! d[q]! = false->∀c,a<=c->c<=q->k.less d[m]! d[c]! = false:=fun q h1 h2 h3 c h4 h5=>by
  rw[hA q m h1 h2 (Nat.le_refl _) hmb] at h3;rw[hA c m h4 (by omega) (Nat.le_refl _) hmb]
  by_cases e:c=q
  ·rw[e];exact h3
  ·exact hno _ _ _ h3 (hL c q h4 (by omega) h2)
 refine ZAG Tryz.func145 rfl (by rw[Tryz.ntmps145];rfl) ?_;show Wc Tryz.prog ⟨145,220,none⟩ _ _ _ _ _;refine zy ?_
 by_cases c1:m=a+1
 ·refine ZAV rfl rfl rfl rfl (A_tt (by omega) (ZAg rfl rfl)) ?_
  refine zy ?_;refine ZAN (fun (s:Nat×Nat) me ds h'=>ds=[]/\m<=s.1/\s.1<=s.2/\s.2<=b/\(∀c,m<=c->c<s.1->k.less d[c]! d[a]! = true)/\(∀c,s.2<=c->c<b->k.less d[c]! d[a]! = false)/\k.St d h'/\AllK me [(0,k.v),(1,i64 a),(2,i64 m),(3,i64 b),(4,k.f),(10,i64 s.1),(11,i64 s.2)]) (fun s=>s.2-s.1) (m,b) ?_ ?_
  ·exact⟨rfl,Nat.le_refl _,by show m<=b;omega,Nat.le_refl _,(fun c h1 h2=>by simp only at h2;omega),(fun c h1 h2=>by simp only at h1;omega),hs,rfl,rfl,rfl,rfl,rfl,rfl,rfl,trivial⟩
  clear hs;rintro⟨i,j⟩ me ds h1 ⟨rfl,hi0,hij,hjb,k1,k2,hs,hall⟩;simp only at hi0 hij hjb k1 k2;refine Wc.le ?_ (Le.kn hall);refine zy ?_;refine zC (ZAU rfl rfl) (fun hlt=>?_) (fun hlt=>?_);rotate_left
  ·have hij':i=j:=by omega
   subst hij';refine zy ?_;refine ZAN (fun (q:Nat) me ds h'=>ds=[]/\a<=q/\q+1<=i/\∃d1,Rot a (a+1) (q+1) d d1/\k.St d1 h'/\AllK me [(0,k.v),(1,i64 a),(2,i64 m),(3,i64 b),(4,k.f),(10,i64 i),(13,i64 q)]) (fun q=>i-q) a ?_ ?_
   ·exact⟨rfl,Nat.le_refl _,by omega,d,ZHC _ (.inr rfl) (by omega) (Nat.le_refl _),hs,rfl,rfl,rfl,rfl,rfl,rfl,rfl,trivial⟩
   clear hs hall;clear h1 me;rintro q me ds h1 ⟨rfl,hq0,hq1,d1,hrot,hs,hall⟩;refine Wc.le ?_ (Le.kn hall);have hsz1:=hs.sz;refine zy ?_;refine zC (ZAU rfl rfl) (fun hqi=>?_) (fun hqi=>?_);rotate_left
   ·have hq:q+1=i:=by omega
    subst hq;refine zy ?_;refine ZAC (ZAD rfl ⟨rfl,d1,ZL0 hW c1 hi0 hjb (by omega) hA hR k1 k2 (by rw[c1];exact hrot),hs⟩)
   have hq':q+1<i:=by omega
   have hc1:=hs.row (i:=q) (by omega);have hc2:=hs.row (i:=q+1) (by omega);have hg:=hs.gt;refine zy ?_;refine ZAL hmix xE41 xE45 (some 15) [([16],(some 17)),([],none)] (by kernel_rfl) (by kernel_rfl) ?_;refine z_m ?_;refine z_m ?_;refine z_m ?_;refine z_m ?_;refine z_y ?_;refine z_m ?_;refine z_m ?_;refine z_y ?_;refine ZAB rfl rfl rfl rfl rfl (fun _=>ZAE (k:=q+1) (z:=((q:Nat):Int)+1) Und.h Tsz.h rfl rfl (by omega) (by omega)) ?_;refine z_r ?_;refine z_m ?_;refine z_m ?_;refine z_i ?_;refine z_r ?_;refine z_i ?_;refine ZAI xE48 (by kernel_rfl) rfl (ZAA rfl) rfl nb rfl (ZA1 rfl rfl Tsz.h rfl rfl hg rfl rfl (ZDA (by have:=hs.sz;simp only[List.length_set,Array.length_toList];omega) _) (fun h2 hU2=>?_))
   refine ZAB rfl rfl rfl rfl rfl (fun _=>ZAE (k:=q+1) (z:=((q:Nat):Int)+1) Und.h Tsz.h rfl rfl (by omega) (by omega)) ?_;refine ZAI xE44 (by kernel_rfl) rfl (by refine t_y 4 ?_;refine t_m 3 ?_;refine t_m 2 ?_;exact ZAA rfl) rfl nb rfl (ZA1 rfl rfl Tsz.h rfl rfl hU2.at' rfl rfl (ZDA (by have:=hs.sz;simp only[List.length_set,Array.length_toList];omega) _) (fun h3 hU3=>?_));refine ZAO (ZAA rfl) nb' ?_;have hs3:=hs.swp (i:=q) (j:=q+1) (by omega) (by omega) hU2 hU3;refine zy ?_;exact⟨q+1,(by show i-(q+1)<i-q;omega),rfl,(by show a<=q+1;omega),(by show q+1+1<=i;omega),_,ZUz hrot hq0 (by omega),hs3,rfl,rfl,rfl,rfl,rfl,rfl,rfl,trivial⟩
  have hlt':i<j:=by omega
  have hc1:=hs.row (i:=(i+j) / 2) (by omega);have hc2:=hs.row (i:=a) (by omega);have hcm:=hk.cmp h1 hs.ex d[(i+j) / 2]! d[a]! (hs.dom _ (by omega)) (hs.dom _ (by omega));refine zy ?_;refine ZAV rfl rfl rfl rfl (ZDE ⟨_,Und.h⟩ Und.h rfl (cv1 (i:=i) (j:=j) (by omega))) ?_;refine ZAV rfl rfl rfl rfl (ZNf rfl rfl (by omega) (cv2 (i:=i) (j:=j))) ?_;refine ZAV rfl rfl rfl rfl (ZDE ⟨_,Und.h⟩ Und.h rfl (cv3 (i:=i) (j:=j) (by omega))) ?_;refine zy ?_;refine ZAL hmix [0,0,0,6,14,0,0,96,224,511,1023] xE47 (some 9) [([10],none)] (by kernel_rfl) (by kernel_rfl) ?_;refine z_m ?_;refine z_m ?_;refine z_m ?_;refine z_i ?_;refine z_r ?_;refine z_m ?_;refine z_m ?_;refine z_i ?_;refine z_r ?_
  refine ZAI xE47 (by kernel_rfl) rfl (ZAA rfl) rfl nb rfl (ZEO rfl rfl rfl rfl rfl hk.bd hcm (fun v5 h5 hv=>?_) (fun _ _ hR=>hR.elim));obtain⟨c,rfl,hcl,hE5⟩:=hv;replace hs:=hs.ext hE5;refine ZNo rfl rfl rfl rfl rfl (fun _=>ZAU rfl rfl) (fun hcc=>?_) (fun hcc=>?_)
  ·refine ZAO (ZAA rfl) nb' ?_
   refine zy ?_;exact⟨((i+j) / 2+1,j),(by show j-((i+j) / 2+1)<j-i;omega),rfl,(by show m<=(i+j) / 2+1;omega),(by show (i+j) / 2+1<=j;omega),hjb,(fun c h1 h2=>up1 _ (by omega) (by omega) (hcl.1 hcc) c h1 (by simp only at h2;omega)),k2,hs,rfl,rfl,rfl,rfl,rfl,rfl,rfl,trivial⟩
  ·refine ZAO (ZAA rfl) nb' ?_
   refine zy ?_
   exact⟨(i,(i+j) / 2),(by show (i+j) / 2-i<j-i;omega),rfl,hi0,(by show i<=(i+j) / 2;omega),(by show (i+j) / 2<=b;omega),k1,(fun c h1 h2=>dn1 ((i+j) / 2) (by omega) (by omega) (by cases hq:k.less d[(i+j) / 2]! d[a]! with|false=>rfl|true=>exact absurd (hcl.2 hq) hcc) c h1 h2),hs,rfl,rfl,rfl,rfl,rfl,rfl,rfl,trivial⟩
 refine ZAV rfl rfl rfl rfl (A_ff (by omega) (ZAg rfl rfl)) ?_;refine zy ?_
 by_cases c2:b=m+1
 ·refine ZAV rfl rfl rfl rfl (A_tt (by omega) (ZAg rfl rfl)) ?_
  refine zy ?_;refine ZAN (fun (s:Nat×Nat) me ds h'=>ds=[]/\a<=s.1/\s.1<=s.2/\s.2<=m/\(∀c,a<=c->c<s.1->k.less d[m]! d[c]! = false)/\(∀c,s.2<=c->c<m->k.less d[m]! d[c]! = true)/\k.St d h'/\AllK me [(0,k.v),(1,i64 a),(2,i64 m),(3,i64 b),(4,k.f),(14,i64 s.1),(15,i64 s.2)]) (fun s=>s.2-s.1) (a,m) ?_ ?_
  ·exact⟨rfl,Nat.le_refl _,by show a<=m;omega,Nat.le_refl _,(fun c h1 h2=>by simp only at h2;omega),(fun c h1 h2=>by simp only at h1;omega),hs,rfl,rfl,rfl,rfl,rfl,rfl,rfl,trivial⟩
  clear hs;rintro⟨i,j⟩ me ds h1 ⟨rfl,hi0,hij,hjb,k1,k2,hs,hall⟩;simp only at hi0 hij hjb k1 k2;refine Wc.le ?_ (Le.kn hall);refine zy ?_;refine zC (ZAU rfl rfl) (fun hlt=>?_) (fun hlt=>?_);rotate_left
  ·have hij':i=j:=by omega
   subst hij';refine zy ?_;refine ZAN (fun (q:Nat) me ds h'=>ds=[]/\i<=q/\q<=m/\∃d1,Rot q m (m+1) d d1/\k.St d1 h'/\AllK me [(0,k.v),(1,i64 a),(2,i64 m),(3,i64 b),(4,k.f),(14,i64 i),(17,i64 q)]) (fun q=>q) m ?_ ?_
   ·exact⟨rfl,hjb,Nat.le_refl _,d,ZHC _ (.inl rfl) (Nat.le_refl _) (by omega),hs,rfl,rfl,rfl,rfl,rfl,rfl,rfl,trivial⟩
   clear hs hall;clear h1 me;rintro q me ds h1 ⟨rfl,hq0,hq1,d1,hrot,hs,hall⟩;refine Wc.le ?_ (Le.kn hall);have hsz1:=hs.sz;refine zy ?_;refine zC (ZA4 rfl rfl) (fun hqi=>?_) (fun hqi=>?_);rotate_left
   ·have hq:q=i:=by omega
    subst hq;refine zy ?_;refine ZAC (ZAD rfl ⟨rfl,d1,ZMa hW c2 hi0 hjb (by omega) hA hL k1 k2 (by rw[c2];exact hrot),hs⟩)
   have hq':i<q:=by omega
   obtain⟨q,rfl⟩:∃q',q=q'+1:=⟨q-1,by omega⟩;have hc1:=hs.row (i:=q+1) (by omega);have hc2:=hs.row (i:=q) (by omega);have hg:=hs.gt;refine zy ?_;refine ZAL hmix xE41 xE45 (some 15) [([16],(some 17)),([],none)] (by kernel_rfl) (by kernel_rfl) ?_;refine z_m ?_;refine z_m ?_;refine z_m ?_;refine z_m ?_;refine z_u ?_;refine z_m ?_;refine z_m ?_;refine z_u ?_;refine ZAB rfl rfl rfl rfl rfl (fun _=>ZAE (k:=q) (z:=((q+1:Nat):Int)-1) Und.h Tsz.h rfl rfl (by omega) (by omega)) ?_;refine z_r ?_;refine z_m ?_;refine z_m ?_;refine ZAB rfl rfl rfl rfl rfl (fun _=>ZAE (k:=q+1) (z:=((q+1:Nat):Int)) Und.h Tsz.h rfl rfl (by omega) (by omega)) ?_;refine z_r ?_;refine ZAB rfl rfl rfl rfl rfl (fun _=>ZAE (k:=q+1) (z:=((q+1:Nat):Int)) Und.h Tsz.h rfl rfl (by omega) (by omega)) ?_
   refine ZAI xE48 (by kernel_rfl) rfl (ZAA rfl) rfl nb rfl (ZA1 rfl rfl Tsz.h rfl rfl hg rfl rfl (ZDA (by have:=hs.sz;simp only[List.length_set,Array.length_toList];omega) _) (fun h2 hU2=>?_));refine ZAB rfl rfl rfl rfl rfl (fun _=>ZAE (k:=q) (z:=((q+1:Nat):Int)-1) Und.h Tsz.h rfl rfl (by omega) (by omega)) ?_;refine ZAI xE44 (by kernel_rfl) rfl (by refine t_u 4 ?_;refine t_m 3 ?_;refine t_m 2 ?_;exact ZAA rfl) rfl nb rfl (ZA1 rfl rfl Tsz.h rfl rfl hU2.at' rfl rfl (ZDA (by have:=hs.sz;simp only[List.length_set,Array.length_toList];omega) _) (fun h3 hU3=>?_));refine ZAO (ZAA rfl) nb' ?_;have hs3:=hs.swp (i:=q+1) (j:=q) (by omega) (by omega) hU2 hU3
   refine zy ?_;refine⟨q,(by show q<q+1;omega),rfl,(by show i<=q;omega),(by show q<=m;omega),_,ZR1 hrot (by omega) (by omega),hs3,rfl,rfl,rfl,rfl,rfl,rfl,?_,trivial⟩
   show some (Value.int .i64 (((q+1:Nat):Int)-1))=some (i64 ((q:Nat):Int))
   congr 2
   omega
  have hlt':i<j:=by omega
  have hc1:=hs.row (i:=m) (by omega);have hc2:=hs.row (i:=(i+j) / 2) (by omega);have hcm:=hk.cmp h1 hs.ex d[m]! d[(i+j) / 2]! (hs.dom _ (by omega)) (hs.dom _ (by omega));refine zy ?_;refine ZAV rfl rfl rfl rfl (ZDE ⟨_,Und.h⟩ Und.h rfl (cv1 (i:=i) (j:=j) (by omega))) ?_;refine ZAV rfl rfl rfl rfl (ZNf rfl rfl (by omega) (cv2 (i:=i) (j:=j))) ?_;refine ZAV rfl rfl rfl rfl (ZDE ⟨_,Und.h⟩ Und.h rfl (cv3 (i:=i) (j:=j) (by omega))) ?_;refine zy ?_;refine ZAL hmix [0,0,0,6,14,0,0,96,224,511,1023,2047] xE47 (some 9) [([10,11],none)] (by kernel_rfl) (by kernel_rfl) ?_;refine z_m ?_;refine z_m ?_;refine z_m ?_;refine z_i ?_;refine z_r ?_;refine z_m ?_;refine z_m ?_;refine z_i ?_;refine z_r ?_
  refine ZAI xE47 (by kernel_rfl) rfl (ZAA rfl) rfl nb rfl (ZEO rfl rfl rfl rfl rfl hk.bd hcm (fun v5 h5 hv=>?_) (fun _ _ hR=>hR.elim));obtain⟨c,rfl,hcl,hE5⟩:=hv;replace hs:=hs.ext hE5;refine ZNo rfl rfl rfl rfl rfl (fun _=>ZAU rfl rfl) (fun hcc=>?_) (fun hcc=>?_)
  ·refine z_n ?_
   refine ZAO (ZAA rfl) nb' ?_;refine zy ?_;exact⟨(i,(i+j) / 2),(by show (i+j) / 2-i<j-i;omega),rfl,hi0,(by show i<=(i+j) / 2;omega),(by show (i+j) / 2<=m;omega),k1,(fun c h1 h2=>up2 ((i+j) / 2) (by omega) (by omega) (hcl.1 hcc) c h1 h2),hs,rfl,rfl,rfl,rfl,rfl,rfl,rfl,trivial⟩
  ·refine z_n ?_
   refine ZAO (ZAA rfl) nb' ?_;refine zy ?_
   exact⟨((i+j) / 2+1,j),(by show j-((i+j) / 2+1)<j-i;omega),rfl,(by show a<=(i+j) / 2+1;omega),(by show (i+j) / 2+1<=j;omega),hjb,(fun c h1 h2=>dn2 ((i+j) / 2) (by omega) (by omega) (by cases hq:k.less d[m]! d[(i+j) / 2]! with|false=>rfl|true=>exact absurd (hcl.2 hq) hcc) c h1 (by simp only at h2;omega)),k2,hs,rfl,rfl,rfl,rfl,rfl,rfl,rfl,trivial⟩
 refine ZAV rfl rfl rfl rfl (A_ff (by omega) (ZAg rfl rfl)) ?_;refine zy ?_;refine ZAV rfl rfl rfl rfl (ZDE ⟨_,Und.h⟩ Und.h rfl (cv1 (i:=a) (j:=b) (by omega))) ?_;refine ZAV rfl rfl rfl rfl (ZNf rfl rfl (by omega) (cv2 (i:=a) (j:=b))) ?_;refine ZAV rfl rfl rfl rfl (ZDE ⟨_,Und.h⟩ Und.h rfl (cv3 (i:=a) (j:=b) (by omega))) ?_;have hmid1:a<=(a+b) / 2:=by omega
 have hmid2:(a+b) / 2<b:=by omega
 generalize hmid:(a+b) / 2=mid at *;refine zy ?_;refine zD (ZA4 rfl rfl) ?_;refine Wc.mono (Q:=fun x me ds' h'=>x=.normal/\ds'=[]/\h'=h/\∃(lo hi:Nat),((mid<m/\lo=mid+m-b/\hi=mid)\/(m<=mid/\lo=a/\hi=m))/\AllK me [(0,k.v),(1,i64 a),(2,i64 m),(3,i64 b),(4,k.f),(18,i64 mid),(19,i64 ((mid:Int)+(m:Int))),(20,i64 lo),(21,i64 hi)]) ?_ ?_
 ·refine ZMw rfl (fun ht=>?_) (fun hn=>?_)
  ·have ht:=of_decide_eq_true ht
   have ht':mid<m:=by omega
   refine zy ?_;refine⟨rfl,rfl,rfl,mid+m-b,mid,.inl ⟨ht',rfl,rfl⟩,rfl,rfl,rfl,rfl,rfl,rfl,rfl,?_,rfl,trivial⟩
   show some (Value.int .i64 (((mid:Int)+(m:Int))-(b:Int)))=some (i64 ((mid+m-b:Nat):Int))
   congr 2
   omega
  ·have hn:=of_decide_eq_false hn
   have hn':m<=mid:=by omega
   refine zy ?_;exact⟨rfl,rfl,rfl,a,m,.inr ⟨hn',rfl,rfl⟩,rfl,rfl,rfl,rfl,rfl,rfl,rfl,rfl,rfl,trivial⟩
 rintro x me ds' h' ⟨rfl,rfl,rfl,lo,hi,hlo,hall⟩
 show Wc _ _ _ _ _ _ _
 refine Wc.le ?_ (Le.kn hall);have hloh:a<=lo/\lo<=hi/\hi<=m/\hi<=mid:=by omega
 have hpb:∀c,lo<=c->c<hi->m<=mid+m-1-c/\mid+m-1-c<b:=by omega
 have up3:∀q,lo<=q->q<hi->k.less d[mid+m-1-q]! d[q]! = true->∀c,q<=c->c<hi->k.less d[mid+m-1-c]! d[c]! = true:=fun q h1 h2 h3 c h4 h5=>by
  have q1:=hpb q h1 h2;have q2:=hpb c (by omega) h5;rw[hA q _ (by omega) (by omega) q1.1 q1.2] at h3;rw[hA c _ (by omega) (by omega) q2.1 q2.2]
  by_cases e:c=q
  ·rw[e];exact h3
  ·cases hq:lt d[mid+m-1-c]! d[c]! with
   | true=>rfl
   | false =>
    have e1:=hno _ _ _ hq (hL q c (by omega) (by omega) (by omega));rw[hno _ _ _ (hR (mid+m-1-c) (mid+m-1-q) q2.1 (by omega) q1.2) e1] at h3;cases h3
 have dn3:∀q,lo<=q->q<hi->k.less d[mid+m-1-q]! d[q]! = false->∀c,lo<=c->c<=q->k.less d[mid+m-1-c]! d[c]! = false:=fun q h1 h2 h3 c h4 h5=>by
  cases hq:k.less d[mid+m-1-c]! d[c]! with
  | false=>rfl
  | true=>rw[up3 c h4 (by omega) hq q h5 h2] at h3;cases h3
 refine zy ?_;refine ZAN (fun (s:Nat×Nat) me ds h'=>ds=[]/\lo<=s.1/\s.1<=s.2/\s.2<=hi/\(∀c,lo<=c->c<s.1->k.less d[mid+m-1-c]! d[c]! = false)/\(∀c,s.2<=c->c<hi->k.less d[mid+m-1-c]! d[c]! = true)/\k.St d h'/\AllK me [(0,k.v),(1,i64 a),(2,i64 m),(3,i64 b),(4,k.f),(18,i64 mid),(19,i64 ((mid:Int)+(m:Int))),(20,i64 s.1),(21,i64 s.2),(22,i64 ((mid:Int)+(m:Int)-1))]) (fun s=>s.2-s.1) (lo,hi) ?_ ?_
 ·exact⟨rfl,Nat.le_refl _,hloh.2.1,Nat.le_refl _,(fun c h1 h2=>by simp only at h2;omega),(fun c h1 h2=>by simp only at h1;omega),hs,rfl,rfl,rfl,rfl,rfl,rfl,rfl,rfl,rfl,rfl,trivial⟩
 clear hs hall;clear me;rintro⟨i,j⟩ me ds h1 ⟨rfl,hi0,hij,hjb,k1,k2,hs,hall⟩;simp only at hi0 hij hjb k1 k2;refine Wc.le ?_ (Le.kn hall);refine zy ?_;refine zC (ZAU rfl rfl) (fun hlt=>?_) (fun hlt=>?_)
 ·have hlt':i<j:=by omega
  have q1:=hpb ((i+j) / 2) (by omega) (by omega);have hc1:=hs.row (i:=mid+m-1-(i+j) / 2) (by omega);have hc2:=hs.row (i:=(i+j) / 2) (by omega);have hcm:=hk.cmp h1 hs.ex d[mid+m-1-(i+j) / 2]! d[(i+j) / 2]! (hs.dom _ (by omega)) (hs.dom _ (by omega));refine zy ?_;refine ZAV rfl rfl rfl rfl (ZDE ⟨_,Und.h⟩ Und.h rfl (cv1 (i:=i) (j:=j) (by omega))) ?_;refine ZAV rfl rfl rfl rfl (ZNf rfl rfl (by omega) (cv2 (i:=i) (j:=j))) ?_;refine ZAV rfl rfl rfl rfl (ZDE ⟨_,Und.h⟩ Und.h rfl (cv3 (i:=i) (j:=j) (by omega))) ?_;refine zy ?_;refine ZAL hmix [0,0,0,0,12,30,62,0,0,384,896,2047,4095,8191] xE46 (some 11) [([12,13],none)] (by kernel_rfl) (by kernel_rfl) ?_
  refine z_m ?_;refine z_m ?_;refine z_m ?_;refine z_m ?_;refine z_u ?_;refine ZAB rfl rfl rfl rfl rfl (fun _=>ZAE (k:=mid+m-1-(i+j) / 2) (z:=((mid:Nat):Int)+(m:Nat)-1-(((i+j) / 2:Nat):Int)) Und.h Tsz.h rfl rfl (by omega) (by omega)) ?_;refine z_r ?_;refine z_m ?_;refine z_m ?_;refine z_i ?_;refine z_r ?_;refine ZAI xE46 (by kernel_rfl) rfl (ZAA rfl) rfl nb rfl (ZEO rfl rfl rfl rfl rfl hk.bd hcm (fun v5 h5 hv=>?_) (fun _ _ hR=>hR.elim));obtain⟨c,rfl,hcl,hE5⟩:=hv;replace hs:=hs.ext hE5;refine ZNo rfl rfl rfl rfl rfl (fun _=>ZAU rfl rfl) (fun hcc=>?_) (fun hcc=>?_)
  ·refine z_n ?_
   refine ZAO (ZAA rfl) nb' ?_;refine zy ?_;exact⟨(i,(i+j) / 2),(by show (i+j) / 2-i<j-i;omega),rfl,hi0,(by show i<=(i+j) / 2;omega),(by show (i+j) / 2<=hi;omega),k1,(fun c h1 h2=>up3 ((i+j) / 2) (by omega) (by omega) (hcl.1 hcc) c h1 h2),hs,rfl,rfl,rfl,rfl,rfl,rfl,rfl,rfl,rfl,rfl,trivial⟩
  ·refine z_n ?_
   refine ZAO (ZAA rfl) nb' ?_;refine zy ?_
   exact⟨((i+j) / 2+1,j),(by show j-((i+j) / 2+1)<j-i;omega),rfl,(by show lo<=(i+j) / 2+1;omega),(by show (i+j) / 2+1<=j;omega),hjb,(fun c h1 h2=>dn3 ((i+j) / 2) (by omega) (by omega) (by cases hq:k.less d[mid+m-1-(i+j) / 2]! d[(i+j) / 2]! with|false=>rfl|true=>exact absurd (hcl.2 hq) hcc) c h1 (by simp only at h2;omega)),k2,hs,rfl,rfl,rfl,rfl,rfl,rfl,rfl,rfl,rfl,rfl,trivial⟩
 have hij':i=j:=by omega
 subst hij';have hcut:=ZVX (lt:=lt) (less:=k.less) hW hA hL hR hi0 hjb (p:=mid+m-1) (by rw[hmid];omega) ham hmb (by rw[hmid];exact hlo) k1 k2;rw[show mid+m-1+1-i=mid+m-i by omega] at hcut;generalize hfin:mid+m-i=fin at *;have hf1:m<=fin:=by omega
 have hf2:fin<=b:=by omega
 have hf3:i+(fin-m)=mid:=by omega
 refine ZD7 ?_
 show Wc _ _ _ _ _ _ _
 refine ZFR rfl ?_;refine ZMW ?_
 show Wc _ _ _ _ _ _ _
 refine ZUB (Q':=fun x me ds' h'=>x=.normal/\ds'=[]/\(∃d1,Rot i m fin d d1/\k.St d1 h')/\AllK me [(0,k.v),(1,i64 a),(2,i64 m),(3,i64 b),(4,k.f),(18,i64 mid),(20,i64 i),(24,i64 fin)]) ?_ ?_
 ·have he24:some (Value.int .i64 ((mid:Int)+(m:Int)-(i:Int)))=some (i64 ((fin:Nat):Int)):=by
   congr 2
   omega
  refine zy ?_
  by_cases e1:i<m
  ·refine ZAV rfl rfl rfl rfl (A_tt (by omega) (ZAU rfl rfl)) ?_
   refine zy ?_
   by_cases e2:m<fin
   ·refine ZAV rfl rfl rfl rfl (A_tt (by omega) (ZAU rfl rfl)) ?_
    refine zy ?_;refine ZAa rfl rfl rfl rfl rfl Bod.h rfl rfl (ZPM hk (a:=i) (m:=m) (b:=fin) rfl rfl (by omega) hs e1 e2 (by omega)) ?_;rintro _ h2 ⟨rfl,d1,hR1,hs1⟩;refine zy ?_;exact⟨rfl,rfl,⟨d1,hR1,hs1⟩,rfl,rfl,rfl,rfl,rfl,rfl,rfl,he24,trivial⟩
   ·refine ZAV rfl rfl rfl rfl (A_ff (by omega) (ZAU rfl rfl)) ?_
    refine zy ?_;exact⟨rfl,rfl,⟨d,ZHC _ (.inr (by omega)) (by omega) (by omega),hs⟩,rfl,rfl,rfl,rfl,rfl,rfl,rfl,he24,trivial⟩
  ·refine ZAV rfl rfl rfl rfl (A_ff (by omega) (ZAU rfl rfl)) ?_
   refine zy ?_;exact⟨rfl,rfl,⟨d,ZHC _ (.inl (by omega)) (by omega) (by omega),hs⟩,rfl,rfl,rfl,rfl,rfl,rfl,rfl,he24,trivial⟩
 clear hs hall;clear h1 me;rintro x me ds h1 ⟨rfl,rfl,⟨d1,hR1,hs⟩,hall⟩;obtain⟨⟨ag1,sl1,sr1⟩,⟨ag2,sl2,sr2⟩,hsep⟩:=ZQ9 hW (by omega) (by omega) hf1 hf2 (by omega) hA hL hR hcut hR1;rw[hf3] at ag1 sr1 ag2 sl2 hsep;have hsz1:=hs.sz
 show Wc _ _ _ _ _ _ _
 refine Wc.le ?_ (Le.kn hall);refine ZED ?_;refine Wc.mono (Q:=fun x me ds' h'=>x=.normal/\ds'=[]/\(∃d2,ZBt lt a mid d1 d2/\k.St d2 h')/\AllK me [(0,k.v),(1,i64 a),(2,i64 m),(3,i64 b),(4,k.f),(18,i64 mid),(20,i64 i),(24,i64 fin)]) ?_ ?_
 ·refine zy ?_
  by_cases e1:a<i
  ·refine ZAV rfl rfl rfl rfl (A_tt (by omega) (ZAU rfl rfl)) ?_
   refine zy ?_
   by_cases e2:i<mid
   ·refine ZAV rfl rfl rfl rfl (A_tt (by omega) (ZAU rfl rfl)) ?_
    refine zy ?_;refine ZAa rfl rfl rfl rfl rfl Bod.h rfl rfl (ih (mid-a) (by omega) rfl (a:=a) (mm:=i) (b:=mid) rfl rfl rfl hs e1 e2 (by omega) ag1 sl1 sr1) ?_;rintro _ h2 ⟨rfl,d2,hM2,hs2⟩;refine zy ?_;exact⟨rfl,rfl,⟨d2,hM2,hs2⟩,rfl,rfl,rfl,rfl,rfl,rfl,rfl,rfl,trivial⟩
   ·refine ZAV rfl rfl rfl rfl (A_ff (by omega) (ZAU rfl rfl)) ?_
    refine zy ?_;exact⟨rfl,rfl,⟨d1,ZDw (by rw[show mid=i by omega];exact sl1),hs⟩,rfl,rfl,rfl,rfl,rfl,rfl,rfl,rfl,trivial⟩
  ·refine ZAV rfl rfl rfl rfl (A_ff (by omega) (ZAU rfl rfl)) ?_
   refine zy ?_;exact⟨rfl,rfl,⟨d1,ZDw (by rw[show a=i by omega];exact sr1),hs⟩,rfl,rfl,rfl,rfl,rfl,rfl,rfl,rfl,trivial⟩
 clear hs hall;clear h1 me;rintro x me ds h1 ⟨rfl,rfl,⟨d2,hM2,hs⟩,hall⟩;have hge:∀q,mid<=q->d2[q]! = d1[q]!:=fun q hq=>hM2.1.2.1 q (.inr hq);have hsz2:=hs.sz
 show Wc _ _ _ _ _ _ _
 refine Wc.le ?_ (Le.kn hall)
 have hfinal:∀d3,ZBt lt mid b d2 d3->ZBt lt a b d d3:=fun d3 hM3=>by
  have h1:=ZQK (by omega) (by omega) (by omega) hsep hM2 hM3;exact⟨permIn_trans _ _ _ _ _ (permIn_mono _ _ _ _ _ _ (by omega) hf2 (by omega) (hR1.perm (by omega) hf1 (by omega))) h1.1,h1.2⟩
 have ag2':ZHP k.less lt mid fin b d2:=fun p q h1 h2 h3 h4=>by rw[hge p h1,hge q (by omega)];exact ag2 p q h1 h2 h3 h4
 have sl2':SortedIn lt mid fin d2:=ZDF sl2 fun q h1 _=>hge q h1;have sr2':SortedIn lt fin b d2:=ZDF sr2 fun q h1 _=>hge q (by omega);refine zy ?_
 by_cases e1:mid<fin
 ·refine ZAV rfl rfl rfl rfl (A_tt (by omega) (ZAU rfl rfl)) ?_
  refine zy ?_
  by_cases e2:fin<b
  ·refine ZAV rfl rfl rfl rfl (A_tt (by omega) (ZAU rfl rfl)) ?_
   refine zy ?_;refine ZAa rfl rfl rfl rfl rfl Bod.h rfl rfl (ih (b-mid) (by omega) rfl (a:=mid) (mm:=fin) (b:=b) rfl rfl rfl hs e1 e2 (by omega) ag2' sl2' sr2') ?_;rintro _ h2 ⟨rfl,d3,hM3,hs3⟩;refine zy ?_;exact ZAz rfl ⟨rfl,d3,hfinal _ hM3,hs3⟩
  ·refine ZAV rfl rfl rfl rfl (A_ff (by omega) (ZAU rfl rfl)) ?_
   refine zy ?_;exact ZAz rfl ⟨rfl,d2,hfinal _ (ZDw (by rw[show b=fin by omega];exact sl2')),hs⟩
 ·refine ZAV rfl rfl rfl rfl (A_ff (by omega) (ZAU rfl rfl)) ?_
  refine zy ?_;exact ZAz rfl ⟨rfl,d2,hfinal _ (ZDw (by rw[show mid=fin by omega];exact sr2')),hs⟩
theorem ZC6 (d:Array WkR)(lo hi:Nat):(d.extract lo hi).toList=(d.toList.drop lo).take (hi-lo):=by rw[Array.toList_extract]
theorem ZK8 {d:Array WkR}{lo mi hi:Nat}(h1:lo<=mi)(h2:mi<=hi):(d.extract lo hi).toList=(d.extract lo mi).toList++(d.extract mi hi).toList:=by
 rw[ZC6,ZC6,ZC6,show hi-lo=(mi-lo)+(hi-mi) by omega,List.take_add,List.drop_drop,show lo+(mi-lo)=mi by omega]
theorem ZLv {d d1:Array WkR}{lo hi:Nat}(hs:d1.size=d.size)(hh:hi<=d.size)(h:∀i,lo<=i->i<hi->d1[i]! = d[i]!):(d1.extract lo hi).toList=(d.extract lo hi).toList:=by
 rw[ZC6,ZC6];apply List.ext_getElem?;intro i;rw[List.getElem?_take,List.getElem?_take]
 split
 ·rename_i hi'
  rw[List.getElem?_drop,List.getElem?_drop,Array.getElem?_toList,Array.getElem?_toList];have e:=h (lo+i) (by omega) (by omega);have k1:lo+i<d1.size:=by omega
  have k2:lo+i<d.size:=by omega
  rw[getElem!_pos d1 _ k1,getElem!_pos d _ k2] at e;rw[Array.getElem?_eq_getElem k1,Array.getElem?_eq_getElem k2,e]
 ·rfl
theorem ZP0 {d:Array WkR}{lo hi:Nat}(hh:hi<=d.size){x:WkR}:x∈(d.extract lo hi).toList ↔ ∃i,lo<=i/\i<hi/\d[i]! = x:=by
 rw[ZC6,List.mem_iff_getElem]
 constructor
 ·rintro⟨i,hi',e⟩
  rw[List.length_take,List.length_drop,Array.length_toList] at hi';refine⟨lo+i,by omega,by omega,?_⟩;rw[List.getElem_take,List.getElem_drop,Array.getElem_toList] at e;rw[getElem!_pos d _ (by omega)];exact e
 ·rintro⟨i,h1,h2,e⟩
  refine⟨i-lo,by rw[List.length_take,List.length_drop,Array.length_toList];omega,?_⟩;rw[List.getElem_take,List.getElem_drop,Array.getElem_toList];rw[getElem!_pos d _ (by omega)] at e;rw[<-e]
  congr 1;omega
def Pt (lt:WkR->WkR->Bool)(d d1:Array WkR)(lo hi:Nat):Prop:=(d1.extract lo hi).toList.Perm (d.extract lo hi).toList/\SortedIn lt lo hi d1
section
variable {lt less:WkR->WkR->Bool}{d d1 d2:Array WkR}{lo mi hi:Nat}
theorem Pt.all (h:Pt lt d d1 lo hi)(hs:d1.size=d.size)(hh:hi<=d.size)(p:WkR->Prop)(hp:∀i,lo<=i->i<hi->p d[i]!):∀i,lo<=i->i<hi->p d1[i]!:=fun i h1 h2=>by
 have:d1[i]! ∈ (d1.extract lo hi).toList:=(ZP0 (by omega)).2 ⟨i,h1,h2,rfl⟩;obtain⟨j,j1,j2,e⟩:=(ZP0 hh).1 (h.1.subset this);rw[<-e];exact hp j j1 j2
theorem Pt.same (h:Pt lt d d1 lo hi)(hs:d2.size=d1.size)(hh:hi<=d1.size)(he:∀i,lo<=i->i<hi->d2[i]! = d1[i]!):Pt lt d d2 lo hi :=
 ⟨by rw[ZLv hs hh he];exact h.1,ZDF h.2 he⟩
theorem Pt.merge (h1:Pt lt d d1 lo mi)(h2:Pt lt d d1 mi hi)(hl:lo<=mi)(hm:mi<=hi)(hM:ZBt lt lo hi d1 d2):Pt lt d d2 lo hi :=
 ⟨hM.1.2.2.trans (by rw[ZK8 hl hm,ZK8 (d:=d) hl hm];exact h1.1.append h2.1),hM.2⟩
theorem Pt.agree (hpair:∀i j,i<j->j<d.size->less d[j]! d[i]! = lt d[j]! d[i]!)(h1:Pt lt d d1 lo mi)(h2:Pt lt d d1 mi hi)(hs:d1.size=d.size)(hl:lo<=mi)(hm:mi<=hi)(hh:hi<=d.size):ZHP less lt lo mi hi d1 :=
 ZSb hl hm hh (fun i j _ h2 h3=>hpair i j h2 (by omega)) (fun p hp=>h1.all hs (by omega) p hp) (fun p hp=>h2.all hs hh p hp)
def Pts (lt:WkR->WkR->Bool)(d d1:Array WkR)(s:Nat):Prop:=d1.size=d.size/\∀q,q*s<d.size->Pt lt d d1 (q*s) (min ((q+1)*s) d.size)
def Pts2 (lt:WkR->WkR->Bool)(d d1:Array WkR)(s r:Nat):Prop:=d1.size=d.size/\(∀q,q<r->Pt lt d d1 (q*(2*s)) ((q+1)*(2*s)))/\∀q,2*r<=q->q*s<d.size->Pt lt d d1 (q*s) (min ((q+1)*s) d.size)
theorem Pts.start {s:Nat}(h:Pts lt d d1 s):Pts2 lt d d1 s 0:=⟨h.1,fun q hq=>by omega,fun q _ hq=>h.2 q hq⟩
theorem Pts.whole {s:Nat}(h:Pts lt d d1 s)(hs:d.size<=s):ZBt lt 0 d.size d d1:=by
 rcases Nat.eq_zero_or_pos d.size with e|e
 ·rw[e]
  refine⟨⟨h.1,fun i _=>?_,?_⟩,fun i j _ _ hj=>by omega⟩
  ·have h1:d1.size<=i:=by rw[h.1];omega
   have h2:d.size<=i:=by omega
   rw[getElem!_neg d1 i (by omega),getElem!_neg d i (by omega)]
  ·rw[ZC6,ZC6];simp
 ·have h0:=h.2 0 (by omega)
  rw[Nat.zero_mul,Nat.zero_add,Nat.one_mul,Nat.min_eq_right hs] at h0;refine⟨⟨h.1,fun i hi=>?_,h0.1⟩,h0.2⟩;have h1:d1.size<=i:=by rw[h.1];omega
  have h2:d.size<=i:=by omega
  rw[getElem!_neg d1 i (by omega),getElem!_neg d i (by omega)]
theorem Pts2.step {s r:Nat}(h:Pts2 lt d d1 s r)(hr:(r+1)*(2*s)<=d.size)(hs:0<s)(hM:ZBt lt (r*(2*s)) ((r+1)*(2*s)) d1 d2):Pts2 lt d d2 s (r+1):=by
 have e1:r*(2*s)=2*r*s:=by rw[<-Nat.mul_assoc,Nat.mul_comm r 2]
 have e2:(r+1)*(2*s)=(2*r+2)*s:=by rw[<-Nat.mul_assoc,Nat.mul_comm (r+1) 2,Nat.mul_add]
 have e3:(2*r+1)*s+s=(2*r+2)*s:=by rw[<-Nat.succ_mul]
 have e4:2*r*s+s=(2*r+1)*s:=by rw[<-Nat.succ_mul]
 have e5:(2*r+1+1)*s=(2*r+2)*s:=by rw[show 2*r+1+1=2*r+2 by omega]
 have hsz:d2.size=d1.size:=hM.1.1;refine⟨hsz.trans h.1,fun q hq=>?_,fun q hq hqs=>?_⟩
 ·by_cases e:q=r
  ·subst e
   have p1:=h.2.2 (2*q) (Nat.le_refl _) (by omega);have p2:=h.2.2 (2*q+1) (by omega) (by omega);rw[Nat.min_eq_left (by omega)] at p1 p2;have p3:=p1.merge p2 (by omega) (by rw[show 2*q+1+1=2*q+2 by omega];omega) (by rw[show 2*q+1+1=2*q+2 by omega,<-e1,<-e2];exact hM);rw[show 2*q+1+1=2*q+2 by omega,<-e1,<-e2] at p3;exact p3
  ·have hq':q+1<=r:=by omega
   have:=Nat.mul_le_mul_right (2*s) hq';refine (h.2.1 q (by omega)).same hsz ?_ fun i _ hi=>hM.1.2.1 i (.inl (by omega));rw[h.1];omega
 ·have:=Nat.mul_le_mul_right s (show 2*r+2<=q by omega)
  refine (h.2.2 q (by omega) hqs).same hsz (by rw[h.1];omega) fun i hi _=>hM.1.2.1 i (.inr (by omega))
theorem Pts2.last {s r:Nat}(h:Pts2 lt d d1 s r)(hr:r*(2*s)<=d.size)(hr2:d.size<(r+1)*(2*s))(hs:0<s)(h2:(r*(2*s)+s<d.size/\ZBt lt (r*(2*s)) d.size d1 d2)\/(d.size<=r*(2*s)+s/\d2=d1)):Pts lt d d2 (2*s):=by
 have e1:r*(2*s)=2*r*s:=by rw[<-Nat.mul_assoc,Nat.mul_comm r 2]
 have e2:(r+1)*(2*s)=(2*r+2)*s:=by rw[<-Nat.mul_assoc,Nat.mul_comm (r+1) 2,Nat.mul_add]
 have e3:(2*r+1)*s+s=(2*r+2)*s:=by rw[<-Nat.succ_mul]
 have e4:2*r*s+s=(2*r+1)*s:=by rw[<-Nat.succ_mul]
 have hsz:d2.size=d1.size:=by
  rcases h2 with ⟨_,hM⟩|⟨_,rfl⟩
  ·exact hM.1.1
  ·rfl
 refine⟨hsz.trans h.1,fun q hq=>?_⟩
 rcases Nat.lt_trichotomy q r with g|g|g
 ·have:=Nat.mul_le_mul_right (2*s) (show q+1<=r by omega)
  rw[Nat.min_eq_left (by omega)];refine (h.2.1 q g).same hsz (by rw[h.1];omega) fun i _ hi=>?_
  rcases h2 with ⟨_,hM⟩|⟨_,rfl⟩
  ·exact hM.1.2.1 i (.inl (by omega))
  ·rfl
 ·subst g
  rw[Nat.min_eq_right (by omega)];have p1:=h.2.2 (2*q) (Nat.le_refl _) (by omega)
  rcases h2 with ⟨h3,hM⟩|⟨h3,rfl⟩
  ·have p2:=h.2.2 (2*q+1) (by omega) (by omega)
   rw[Nat.min_eq_left (by omega)] at p1;rw[Nat.min_eq_right (by rw[show 2*q+1+1=2*q+2 by omega];omega)] at p2;have p3:=p1.merge p2 (by omega) (by omega) (by rw[<-e1];exact hM);rw[<-e1] at p3;exact p3
  ·rw[Nat.min_eq_right (by omega),<-e1] at p1
   exact p1
 ·have:=Nat.mul_le_mul_right (2*s) (show r+1<=q by omega)
  omega
end
end Go.Dw
namespace Go.Dw
open Go Go.Dx Go.Proofs Go.Sort
set_option maxRecDepth 100000
set_option maxHeartbeats 3000000 in
theorem ZPT {k:ZDd}(hk:k.OK){lt:WkR->WkR->Bool}(hW:SWO lt){d:Array WkR}{h:Heap}(hs:k.St d h)(hpair:∀i j,i<j->j<d.size->k.less d[j]! d[i]! = lt d[j]! d[i]!) :
  Sv Tryz.prog 99 [k.v,i64 (k.n:Nat),k.f] h (RetP fun v h'=>v=.tuple ⟨[]⟩/\∃d',ZBt lt 0 d.size d d'/\k.St d' h'):=by
 have hsm:=hk.sm;have hsz:=hs.sz;refine ZAG Tryz.func99 rfl (by rw[Tryz.ntmps99];rfl) ?_;show Wc Tryz.prog ⟨99,63,none⟩ _ _ _ _ _;refine zy ?_;refine ZAN (fun (r:Nat) me ds h'=>ds=[]/\r*20<=k.n/\∃d1,d1.size=d.size/\(∀q,q<r->Pt lt d d1 (q*20) ((q+1)*20))/\(∀i,r*20<=i->d1[i]! = d[i]!)/\k.St d1 h'/\∃x y:Int,x=((r*20:Nat):Int)/\y=x+20/\AllK me [(0,k.v),(1,i64 (k.n:Nat)),(2,k.f),(6,i64 20),(7,i64 x),(8,i64 y)]) (fun r=>k.n-r*20) 0 ?_ ?_
 ·exact⟨rfl,by omega,d,rfl,(fun q hq=>by omega),(fun _ _=>rfl),hs,0,20,(by omega),(by omega),rfl,rfl,rfl,rfl,rfl,rfl,trivial⟩
 clear hs;rintro r me ds h1 ⟨rfl,hr,d1,hd1,hP,hsame,hs,x,y,hx,hy,hall⟩;refine Wc.le ?_ (Le.kn hall)
 have hblk:∀lo hi,lo<=hi->hi<=k.n->r*20<=lo->ZBt lt lo hi d1 (insertionSort k.less d1 lo hi)/\∀d2,ZBt lt lo hi d1 d2->Pt lt d d2 lo hi:=fun lo hi h1 h2 h3=>by
  refine⟨ZE8 hW h1 (by omega) fun i j h4 h5 h6=>?_,fun d2 hM=>⟨hM.1.2.2.trans ?_,hM.2⟩⟩
  ·rw[hsame i (by omega),hsame j (by omega)];exact hpair i j h5 (by omega)
  ·rw[ZLv hd1 (by omega) fun i h4 _=>hsame i (by omega)]
 refine zy ?_;refine zC (ZEL rfl rfl) (fun hle=>?_) (fun hle=>?_)
 ·have hle':(r+1)*20<=k.n:=by omega
  refine zy ?_;refine ZAa rfl rfl rfl rfl rfl Bod.h rfl rfl (ZGu hk hx (b:=(r+1)*20) (by omega) hs (by omega) hle') ?_;rintro _ h2 ⟨rfl,hs2⟩;obtain⟨hM,hPt⟩:=hblk (r*20) ((r+1)*20) (by omega) hle' (Nat.le_refl _);refine zy ?_;refine⟨r+1,(by show k.n-(r+1)*20<k.n-r*20;omega),rfl,hle',_,hM.1.1.trans hd1,fun q hq=>?_,fun i hi=>(hM.1.2.1 i (.inr hi)).trans (hsame i (by omega)),hs2,y,y+20,(by omega),rfl,rfl,rfl,rfl,rfl,rfl,rfl,trivial⟩
  ·by_cases e:q=r
   ·subst e;exact hPt _ hM
   ·exact (hP q (by omega)).same hM.1.1 (by omega) fun i _ hi=>hM.1.2.1 i (.inl (by omega))
 have hle':k.n<(r+1)*20:=by omega
 refine zy ?_;refine zR (ZGu hk hx rfl hs hr (Nat.le_refl _)) ?_;rintro _ h2 ⟨rfl,hs2⟩;obtain⟨hM,hPt⟩:=hblk (r*20) k.n hr (Nat.le_refl _) (Nat.le_refl _);have hPts:Pts lt d (insertionSort k.less d1 (r*20) k.n) 20:=by
  refine⟨hM.1.1.trans hd1,fun q hq=>?_⟩
  rcases Nat.lt_trichotomy q r with g|g|g
  ·rw[Nat.min_eq_left (by omega)]
   exact (hP q g).same hM.1.1 (by omega) fun i _ hi=>hM.1.2.1 i (.inl (by omega))
  ·subst g
   rw[Nat.min_eq_right (by omega),hsz];exact hPt _ hM
  ·omega
 generalize insertionSort k.less d1 (r*20) k.n=d2 at *;clear hblk hP hsame hs hall hM hPt;refine zy ?_;refine ZAN (fun (s:Nat) me ds h'=>ds=[]/\0<s/\s<4000000/\∃d1,Pts lt d d1 s/\k.St d1 h'/\AllK me [(0,k.v),(1,i64 (k.n:Nat)),(2,k.f),(6,i64 s)]) (fun s=>k.n-s) 20 ?_ ?_
 ·exact⟨rfl,by omega,by omega,d2,hPts,hs2,rfl,rfl,rfl,rfl,trivial⟩
 clear hs2 hPts;clear h2 d2;rintro s me ds h1 ⟨rfl,hs0,hs4,d1,hPts,hs,hall⟩;refine Wc.le ?_ (Le.kn hall);refine zy ?_;refine zC (ZAU rfl rfl) (fun hlt=>?_) (fun hlt=>?_);rotate_left
 ·refine zy ?_
  exact ZAz rfl ⟨rfl,d1,hPts.whole (by omega),hs⟩
 have hlt':s<k.n:=by omega
 refine zy ?_;refine ZAV rfl rfl rfl rfl (ZNw rfl rfl (c:=2*s) rfl (by omega) (by omega)) ?_;refine zy ?_;refine ZAN (fun (r:Nat) me ds h'=>ds=[]/\r*(2*s)<=k.n/\∃d1,Pts2 lt d d1 s r/\k.St d1 h'/\∃x y:Int,x=((r*(2*s):Nat):Int)/\y=x+2*s/\AllK me [(0,k.v),(1,i64 (k.n:Nat)),(2,k.f),(6,i64 s),(7,i64 x),(8,i64 y)]) (fun r=>k.n-r*(2*s)) 0 ?_ ?_
 ·refine⟨rfl,by omega,d1,hPts.start,hs,0,2*s,?_,by omega,rfl,rfl,rfl,rfl,rfl,?_,trivial⟩
  ·rw[Nat.zero_mul];rfl
  ·rfl
 clear hs hPts hall;rintro r me ds h1 ⟨rfl,hr,d1,hP,hs,x,y,hx,hy,hall⟩;refine Wc.le ?_ (Le.kn hall);have hrr:(r+1)*(2*s)=r*(2*s)+2*s:=Nat.succ_mul _ _;have hrr2:(r+1+1)*(2*s)=r*(2*s)+2*s+2*s:=by rw[Nat.succ_mul,hrr]
 have e1:r*(2*s)=2*r*s:=by rw[<-Nat.mul_assoc,Nat.mul_comm r 2]
 have e4:(2*r+1)*s=r*(2*s)+s:=by rw[Nat.succ_mul,<-e1]
 have e5:(2*r+1+1)*s=r*(2*s)+2*s:=by rw[Nat.succ_mul,e4];omega
 refine zy ?_;refine zC (ZEL rfl rfl) (fun hle=>?_) (fun hle=>?_)
 ·have hle':(r+1)*(2*s)<=k.n:=by omega
  have p1:=hP.2.2 (2*r) (Nat.le_refl _) (by omega);have p2:=hP.2.2 (2*r+1) (by omega) (by omega);rw[Nat.min_eq_left (by omega),<-e1,e4] at p1;rw[Nat.min_eq_left (by omega),e4,e5] at p2;have hag:=Pt.agree hpair p1 p2 hP.1 (by omega) (by omega) (by omega);refine zy ?_;refine ZAa rfl rfl rfl rfl rfl Bod.h rfl rfl (ZIA hk hW _ rfl (a:=r*(2*s)) (m:=r*(2*s)+s) (b:=r*(2*s)+2*s) hx (by omega) (by omega) hs (by omega) (by omega) (by omega) hag p1.2 p2.2) ?_;rintro _ h2 ⟨rfl,d2,hM,hs2⟩;refine zy ?_;refine ZAV rfl rfl rfl rfl (ZNw rfl rfl (c:=2*s) rfl (by omega) (by omega)) ?_;refine zy ?_;refine⟨r+1,(by show k.n-(r+1)*(2*s)<k.n-r*(2*s);omega),rfl,hle',d2,hP.step (by omega) hs0 (by rw[hrr];exact hM),hs2,y,y+2*s,(by omega),rfl,rfl,rfl,rfl,rfl,rfl,rfl,trivial⟩
 have hle':k.n<(r+1)*(2*s):=by omega
 refine zy ?_
 by_cases hm:r*(2*s)+s<k.n
 ·refine ZAV rfl rfl rfl rfl (A_tt (by omega) (ZAU rfl rfl)) ?_
  have p1:=hP.2.2 (2*r) (Nat.le_refl _) (by omega);have p2:=hP.2.2 (2*r+1) (by omega) (by omega);rw[Nat.min_eq_left (by omega),<-e1,e4] at p1;rw[Nat.min_eq_right (by omega),e4,hsz] at p2;have hag:=Pt.agree hpair p1 p2 hP.1 (by omega) (by omega) (by omega);refine zy ?_;refine ZAa rfl rfl rfl rfl rfl Bod.h rfl rfl (ZIA hk hW _ rfl (a:=r*(2*s)) (m:=r*(2*s)+s) (b:=k.n) hx (by omega) rfl hs (by omega) (by omega) (by omega) hag p1.2 p2.2) ?_;rintro _ h2 ⟨rfl,d2,hM,hs2⟩;refine zy ?_;refine ZAV rfl rfl rfl rfl (ZNw rfl rfl (c:=s*2) rfl (by omega) (by omega)) ?_;refine zy ?_;refine⟨2*s,(by show k.n-2*s<k.n-s;omega),rfl,(by omega),(by omega),d2,hP.last (by omega) (by omega) hs0 (.inl ⟨by omega,by rw[hsz];exact hM⟩),hs2,rfl,rfl,rfl,?_,trivial⟩
  show some (i64 ((s:Int)*2))=some (i64 ((2*s:Nat):Int))
  congr 2;omega
 ·refine ZAV rfl rfl rfl rfl (A_ff (by omega) (ZAU rfl rfl)) ?_
  refine zy ?_;refine ZAV rfl rfl rfl rfl (ZNw rfl rfl (c:=s*2) rfl (by omega) (by omega)) ?_;refine zy ?_;refine⟨2*s,(by show k.n-2*s<k.n-s;omega),rfl,(by omega),(by omega),d1,hP.last (by omega) (by omega) hs0 (.inr ⟨by omega,rfl⟩),hs,rfl,rfl,rfl,?_,trivial⟩
  show some (i64 ((s:Int)*2))=some (i64 ((2*s:Nat):Int))
  congr 2;omega
theorem ZJf {k:ZDd}(hk:k.OK){lt:WkR->WkR->Bool}(hW:SWO lt){d:Array WkR}{h:Heap}(hs:k.St d h)(hpair:∀i j,i<j->j<d.size->k.less d[j]! d[i]! = lt d[j]! d[i]!) :
  Sv Tryz.prog 56 [k.v,k.f] h (RetP fun v h'=>v=.tuple ⟨[]⟩/\∃d',ZBt lt 0 d.size d d'/\k.St d' h'):=by
 refine ZAG Tryz.func56 rfl (by rw[Tryz.ntmps56];rfl) ?_;show Wc Tryz.prog ⟨56,9,none⟩ _ _ _ _ _;refine zy ?_;refine zR (ZPT hk hW hs hpair) ?_;rintro _ h2 ⟨rfl,d2,hM,hs2⟩;refine zy ?_;exact ZAz rfl ⟨rfl,d2,hM,hs2⟩
end Go.Dw
namespace Go.Dw
open Go Go.Dx Go.Proofs Go.Sort
set_option maxRecDepth 100000
theorem ZT9 {l:List WkR}(hl:l.Pairwise ltW){d':Array WkR}(hM:ZBt (fun x y=>decide (ltD x y)) 0 l.toArray.size l.toArray d'):d'.toList=mrgU ltD l:=by
 obtain⟨⟨hsz,-,hp⟩,hs⟩:=hM;have hsz':d'.size=l.length:=by simpa using hsz
 have hp2:d'.toList.Perm l:=by
  have e1:d'.extract 0 l.toArray.size=d':=by
   rw[<-hsz];exact Array.extract_size
  have e2:l.toArray.extract 0 l.toArray.size=l.toArray:=Array.extract_size;rw[e1,e2] at hp;exact hp
 have hnd:d'.toList.Nodup:=hp2.symm.nodup (ZHD hl);refine ZJS ZB1 ?_ fun e=>hp2.mem_iff;rw[List.pairwise_iff_getElem];intro i j hi hj hij;have h1:=hs i j (Nat.zero_le _) hij (by rw[<-hsz];simpa using hj);have hi':i<d'.size:=by simpa using hi
 have hj':j<d'.size:=by simpa using hj
 rw[getElem!_pos d' i hi',getElem!_pos d' j hj'] at h1;rw[Array.getElem_toList,Array.getElem_toList]
 rcases ZB1.tri d'[i] d'[j] with g|g|g
 ·exact g
 ·have:=(List.getElem_inj (h₀:=hi) (h₁:=hj) hnd).1 (by rw[Array.getElem_toList,Array.getElem_toList];exact g)
  omega
 ·exact absurd g (of_decide_eq_false h1)
theorem ZUh (x y:WkR)(h:Heap)(hx:0<=x.day/\x.day<=80000)(hy:0<=y.day/\y.day<=80000):Sv Tryz.prog 57 [encW x,encW y] h (RetP fun v h'=>v=i64 (x.day-y.day)/\Ext h h'):=by
 refine ZAG Tryz.func57 rfl (by rw[Tryz.ntmps57];rfl) ?_;show Wc Tryz.prog ⟨57,10,none⟩ _ _ _ _ _;refine zy ?_;refine ZAn rfl rfl rfl fun h1 hE1 hW1 hg1 hn1=>?_;refine zy ?_;refine ZAn rfl rfl rfl fun h2 hE2 hW2 hg2 hn2=>?_;replace hg1:=hE2.get hg1;refine zy ?_;exact ZAC (ZAD rfl ⟨rfl,hE1.trans hE2⟩)
theorem ZQk {f:Value}{h:Heap}:Sv Tryz.prog 144 [.slice none 0 0,i64 0,i64 0,f] h (RetP fun v h'=>v=.tuple ⟨[]⟩/\h'=h):=by
 refine ZAG Tryz.func144 rfl (by rw[Tryz.ntmps144];rfl) ?_;show Wc Tryz.prog ⟨144,53,none⟩ _ _ _ _ _;refine zy ?_;refine ZAN (fun (_:Unit) m ds h'=>ds=[]/\h'=h/\AllK m [(2,i64 0),(8,i64 1)]) (fun _=>0) () ?_ ?_
 ·exact⟨rfl,rfl,rfl,rfl,trivial⟩
 rintro _ m ds h1 ⟨rfl,rfl,hall⟩;refine Wc.le ?_ (Le.kn hall);refine zy ?_;refine ZAV rfl rfl rfl rfl (A_ff (by omega) (ZAU rfl rfl)) ?_;refine zy ?_;exact ZAz rfl ⟨rfl,rfl⟩
theorem ZOc {g:FuncId}{h:Heap}:Sv Tryz.prog 56 [.slice none 0 0,.func (.func g) ⟨[]⟩ ⟨[]⟩] h (RetP fun v h'=>v=.tuple ⟨[]⟩/\h'=h):=by
 have hst:Sv Tryz.prog 99 [.slice none 0 0,i64 0,.func (.func g) ⟨[]⟩ ⟨[]⟩] h (RetP fun v h'=>v=.tuple ⟨[]⟩/\h'=h):=by
  refine ZAG Tryz.func99 rfl (by rw[Tryz.ntmps99];rfl) ?_;show Wc Tryz.prog ⟨99,63,none⟩ _ _ _ _ _;refine zy ?_;refine ZAN (fun (_:Unit) m ds h'=>ds=[]/\h=h'/\AllK m [(0,.slice none 0 0),(1,i64 0),(2,.func (.func g) ⟨[]⟩ ⟨[]⟩),(6,i64 20),(7,i64 0),(8,i64 20)]) (fun _=>0) () ?_ ?_
  ·exact⟨rfl,rfl,rfl,rfl,rfl,rfl,rfl,rfl,trivial⟩
  rintro _ m ds h1 ⟨rfl,rfl,hall⟩;refine Wc.le ?_ (Le.kn hall);refine zy ?_;refine ZAV rfl rfl rfl rfl (A_ff (by omega) (ZEL rfl rfl)) ?_;refine zy ?_;refine ZBF rfl rfl rfl rfl rfl Bod.h rfl rfl ZQk ?_;refine zy ?_;refine ZAN (fun (_:Unit) m ds h'=>ds=[]/\h=h'/\AllK m [(1,i64 0),(6,i64 20)]) (fun _=>0) () ?_ ?_
  ·exact⟨rfl,rfl,rfl,rfl,trivial⟩
  rintro _ m ds h1 ⟨rfl,rfl,hall⟩;refine Wc.le ?_ (Le.kn hall);refine zy ?_;refine ZAV rfl rfl rfl rfl (A_ff (by omega) (ZAU rfl rfl)) ?_;refine zy ?_;exact ZAz rfl ⟨rfl,rfl⟩
 refine ZAG Tryz.func56 rfl (by rw[Tryz.ntmps56];rfl) ?_;show Wc Tryz.prog ⟨56,9,none⟩ _ _ _ _ _;refine zy ?_;refine ZBF rfl rfl rfl rfl rfl Bod.h rfl rfl hst ?_;refine zy ?_;exact ZAz rfl ⟨rfl,rfl⟩
theorem ZMI {h0 h:Heap}{v:Value}{l:List WkR}{n:Nat}(hF:ZAF h0 h v 45 6 (l.flatMap rowW) n)(hn:l.length<=1000000)(hl:l.Pairwise ltW)(hd:∀x∈l,0<=x.day/\x.day<=80000) :
  Sv Tryz.prog 56 [v,.func (.func 57) ⟨[]⟩ ⟨[]⟩] h (RetP fun r h'=>r=.tuple ⟨[]⟩/\ZAF h0 h' v 45 6 ((mrgU ltD l).flatMap rowW) n/\Exb (fun c=>ZBM v=some c) h h'):=by
 have hln:n=l.length:=by
  have:=hF.len;rw[ZBe (enc:=rowW) (k:=6) (fun _=>rfl)] at this;omega
 have hml:(mrgU ltD l).length=l.length:=ZHZ (ZHD hl)
 rcases hF with ⟨rfl,hcs,rfl⟩|⟨b,sp,op,rfl,hg,hlen,hb0,hsp⟩
 ·have:l=[]:=List.eq_nil_of_length_eq_zero hln.symm
  subst this;exact ZOc.ret fun v h' ⟨e1,e2⟩=>⟨e1,by subst e2;exact .nil _ _ _ _,by subst e2;exact Exb.refl _ _⟩
 subst hln
 let k:ZDd:=⟨h,b,l.length,l.length,sp,op,57,[],[],fun x y=>decide (x.day<y.day),fun x=>0<=x.day/\x.day<=80000⟩
 have hk:k.OK:=⟨Bod.h,hn,fun h1 _ x y hx hy=>(ZUh x y h1 hx hy).ret fun v h' ⟨e1,e2⟩=>⟨_,e1,by
  show x.day-y.day<0 ↔ decide (x.day<y.day)=true
  rw[decide_eq_true_eq];omega,e2⟩⟩
 have hget:∀i (hi:i<l.length),l.toArray[i]! = l[i]:=fun i hi=>by
  rw[getElem!_pos l.toArray i (by simpa using hi)];simp
 have hst:k.St l.toArray h:=⟨Exb.refl _ _,hg,by simp;rfl,fun i hi=>by
  rw[hget i hi];exact hd _ (List.getElem_mem hi)⟩
 have hW:SWO (fun x y=>decide (ltD x y)):=by
  have e:(fun x y=>decide (ltD x y))=ltOf (cmpI ltD):=by
   funext x y
   exact (decide_eq_decide.2 ZJV).symm
  rw[e];exact ZMk ZB1
 refine (ZJf hk hW hst fun i j hij hj=>?_).ret ?_
 ·have hj':j<l.length:=by simpa using hj
  have hi':i<l.length:=by omega
  rw[hget i hi',hget j hj'];have hlt:=List.pairwise_iff_getElem.1 hl i j hi' hj' hij
  show decide (l[j].day<l[i].day)=decide (ltD l[j] l[i])
  rw[decide_eq_decide,ZRT]
  constructor
  ·exact .inl
  ·rintro (q|⟨-,q⟩)
   ·exact q
   ·exact absurd (ZA0.tr hlt q) (ZA0.irr _)
 ·rintro r h' ⟨rfl,d',hM,hs'⟩
  have he:=ZT9 hl hM;have hgt:=hs'.gt;refine⟨rfl,.inr ⟨b,sp,op,rfl,by rw[<-he];exact hgt,by rw[ZBe (enc:=rowW) (k:=6) (fun _=>rfl),hml],hb0,hsp⟩,hs'.ex.mono fun c hc=>by rw[show c=b from hc];rfl⟩
end Go.Dw
namespace Go.Dw
open Go Go.Dx Go.Proofs
set_option maxRecDepth 100000
abbrev ZMt:=List (Str×Value×List WkR)
noncomputable def ZQX (h0:Heap)(bm b5:Nat)(G:ZMt):List It:=mapI strK bm (kvG G)::ceI b5 [.map (some bm)] 93 false::slG rowW 45 6 h0 G
structure ZIK (G:ZMt)(t:Int)(p:List WkR):Prop where
 raw:∀k,rawG k G=p.filter (plcB t k)
 is:∀k,(ZBQ k G).isSome=decide (k∈p.map WkR.a)
 once:Once (kvG G)
theorem ZIK.nil (t:Int):ZIK [] t []:=⟨fun _=>rfl,fun _=>rfl,by simp[Once,kvG]⟩
theorem ZIK.add {G:ZMt}{t:Int}{p:List WkR}(h:ZIK G t p)(x:WkR)(v:Value){l:List WkR}(hl:l=rawG x.a G++if plcB t x.a x=true then [x] else []):ZIK (setG x.a v l G) t (p++[x]) where
 raw:=fun k=>by
  rw[ZGF,ZRZ,<-h.raw]
  by_cases e:k=x.a
  ·rw[if_pos e,e,hl]
  ·rw[if_neg e]
   have:plcB t k x=false:=decide_eq_false fun q=>e q.2.1.symm;rw[this];simp
 is:=fun k=>by
  rw[ZD1]
  by_cases e:k=x.a
  ·simp[e]
  ·rw[if_neg e,h.is];simp[e]
 once:=by rw[ZCa];exact h.once.set
theorem ZPS {h0 h:Heap}{bm b5:Nat}{G:ZMt}{I:List It}(hO:Own h0 h (ZQX h0 bm b5 G++I)):Own h0 h ((mapI strK bm (kvG G)::ceI b5 [.map (some bm)] 93 false::I)++slG rowW 45 6 h0 G):=hO.perm (List.Perm.cons _ (List.Perm.cons _ List.perm_append_comm))
theorem ZKC {h0 h:Heap}{bm b5:Nat}{G:ZMt}{I:List It}(hO:Own h0 h ((mapI strK bm (kvG G)::ceI b5 [.map (some bm)] 93 false::I)++slG rowW 45 6 h0 G)):Own h0 h (ZQX h0 bm b5 G++I):=hO.perm (List.Perm.cons _ (List.Perm.cons _ List.perm_append_comm))
def ZVk (h0 h:Heap)(bm:Nat)(s:List WkR)(t:Int):Prop :=
 ∃G:ZMt,Own h0 h (mapI strK bm (kvG G)::slG rowW 45 6 h0 G)/\Once (kvG G)/\∀k,(ZBQ k G).map Prod.snd=if k∈itmW s then some (ZBn s t k) else none
def ZOT (b3 bk c1 c2:Nat)(a:Option Addr)(n cap:Nat)(t:Int):List It:=[ceI c1 [.slice a n cap] 90 false,ceI c2 [.slice (some ⟨bk,0,none⟩) 2 2] 46 false,ceI bk [i64 1,i64 5] 3 false,ceI b3 [i64 t] 3 false]
set_option maxHeartbeats 4000000 in
theorem ZJi {a:Option Addr}{cap:Nat}{s:List WkR}{h:Heap}{t:Int}(hR:SrcK rowW 6 h a s)(hup:s.Pairwise ltW)(hls:s.length<=200)(hd:∀x∈s,0<=x.day/\x.day<=80000) :
  Sv Tryz.prog 30 [.slice a s.length cap,i64 t] h (RetP fun v h'=>Ext h h'/\∃bm,v=.map (some bm)/\ZVk h h' bm s t):=by
 refine ZA5 fun hw=>?_;have hlS:Len s:=by show s.length<_;omega
 refine ZAG Tryz.func30 rfl (by rw[Tryz.ntmps30];rfl) ?_;show Wc Tryz.prog ⟨30,45,none⟩ _ _ _ _ _;refine zy ?_;refine ZAn rfl rfl rfl fun h1 hE1 hW1 hg1 hn1=>?_;have hO1:=(Own.nil h h).newCe hw (Nat.le_refl _) hE1 hg1 (Nat.le_refl _);generalize h.nx=b3 at hO1 hg1 ⊢;refine zy ?_;refine ZCe rfl rfl fun h2 hE2 hW2 hg2 hn2=>?_;have hO2:=hO1.newMap (K:=strK) hW1 hE1.2.1 hE2 hg2 (Nat.le_refl _);replace hE2:=hE1.trans hE2;generalize h1.nx=bm at hO2 hg2 ⊢;refine zy ?_;refine ZAJ rfl rfl Zr.h Tsz.h rfl (fun _=>rfl) rfl rfl rfl fun h3 hE3 hW3 hg3 hn3=>?_;have hO3:=hO2.newCe hW2 hE2.2.1 hE3 hg3 (Nat.le_refl _)
 replace hE3:=hE2.trans hE3;generalize h2.nx=b5 at hO3 hg3 ⊢;refine zy ?_;refine ZBg rfl rfl Und.h Tsz.h Zr.h rfl rfl rfl rfl rfl fun h4 hE4 hW4 hg4 hn4=>?_;have hO4:=hO3.newCe hW3 hE3.2.1 hE4 hg4 (Nat.le_refl _);replace hE4:=hE3.trans hE4;generalize h3.nx=bk at hO4 hg4 ⊢;refine zy ?_;refine ZAa rfl rfl rfl rfl rfl Bod.h rfl rfl ZOG ?_;rintro _ h5 ⟨c1,c2,rfl,hE5,hI5⟩;have hO5':=hO4.join hW4 hE4.2.1 hE5 hI5;replace hE5:=hE4.trans hE5;have hO5:Own h h5 (ZQX h bm b5 []++ZOT b3 bk c1 c2 a s.length cap t):=hO5'.shuf (ceI 0 [] 0 false) [0,1,2,3,4,5] [4,3,0,1,2,5] (by decide) rfl;clear hO5' hI5 hO4 hO3 hO2 hO1 hE1 hE2 hE3 hE4 hg1 hg2 hg3 hg4
 refine zy ?_;refine ZDY (q:=6) (X:=fun G=>ZQX h bm b5 G++ZOT b3 bk c1 c2 a s.length cap t) (ok:=fun pre G=>ZIK G t pre) (L:=ofK [1,5] s) (enc:=encW) (cs:=rowW) (el:=45) (op:=false) (s0:=[]) rfl rfl Bod.h rfl hw hE5 hO5 (ZIK.nil t) (ZMh (c1:=c1) (c2:=c2) (bk:=bk) (cap:=cap) (sp:=none) (op:=false) (ks:=[1,5]) hR hlS (show (2:Nat)<_ by decide) fun st=>⟨by simp[ZOT],by simp[ZOT],by simp[ZOT]⟩) (fun l x h'=>?_) (fun l bn pre x post G h6 R hsp hok hO hE6=>?_) (fun G6 h6 hok6 hO6' hE6=>?_)
 ·refine ZBs ?_
  refine ZAJ rfl rfl Zr.h Tsz.h rfl (fun _=>rfl) rfl rfl rfl fun h8 hE8 hW8 hg8 hn8=>?_;exact ZD7 ⟨rfl,rfl,rfl,hE8,hg8⟩
 ·obtain⟨hpl,hxs,hxk⟩:=ZMH hsp
  have hgn:h6.get bn=some (.cells (rowW x) 45 false):=hO.p1;have hgt:h6.get b3=some (.cells [i64 t] 3 false):=hO.has (ceI b3 [i64 t] 3 false) (by simp[ZOT]);have hO':=ZPS hO.rot;have hmap:MapB strK h6 bm (kvG G):=hO'.p1;have hg5:h6.get b5=some (.cells [.map (some bm)] 93 false):=hO'.p2;obtain⟨Rr,ht1,ht2⟩:=ZFu rowW 45 6 h x.a G;have hO1:=ht1 _ _ hO';have hadd:=fun v=>hok.add x v rfl;have hrl:(rawG x.a G).length<=200:=by
   rw[hok.raw];exact Nat.le_trans (List.length_filter_le _ _) (by omega)
  generalize hv:(lkp x.a (kvG G)).getD (.slice none 0 0)=v0 at hO1;generalize hr:rawG x.a G=r0 at *;refine zy ?_;refine zD (ZBN strK (k:=x.a) (v:=v0) Und.h Zr.h rfl hmap rfl hv) ?_
  by_cases h5:x.kind=5
  rotate_left
  ·refine zE (A_ff h5 (ZAg rfl rfl)) ?_
   have hpf:plcB t x.a x=false:=decide_eq_false fun q=>h5 q.1;have hok':=hadd v0;rw[hpf,if_neg (by simp),List.append_nil] at hok';have hK:=ht2 h6 _ v0 r0 hO1;refine zy ?_;refine ZAy strK (k:=x.a) (v:=v0) hw hE6 rfl Und.h rfl hK rfl rfl fun h7 hW7 hO7 hE7=>?_;rw[<-ZCa x.a v0 r0 G] at hO7;refine zy ?_;exact⟨rfl,_,hok',(ZKC hO7).unrot,hE7⟩
  refine zD (A_tt h5 (ZAg rfl rfl)) ?_
  by_cases ht:x.day<=t
  rotate_left
  ·refine zE (A_ff ht (ZEL rfl rfl)) ?_
   have hpf:plcB t x.a x=false:=decide_eq_false fun q=>ht q.2.2;have hok':=hadd v0;rw[hpf,if_neg (by simp),List.append_nil] at hok';have hK:=ht2 h6 _ v0 r0 hO1;refine zy ?_;refine ZAy strK (k:=x.a) (v:=v0) hw hE6 rfl Und.h rfl hK rfl rfl fun h7 hW7 hO7 hE7=>?_;rw[<-ZCa x.a v0 r0 G] at hO7;refine zy ?_;exact⟨rfl,_,hok',(ZKC hO7).unrot,hE7⟩
  refine zE (A_tt ht (ZEL rfl rfl)) ?_;have hpt:plcB t x.a x=true:=decide_eq_true ⟨h5,rfl,ht⟩;rw[hpt,if_pos rfl] at hadd;refine zy ?_;refine ZBg rfl rfl Und.h Tsz.h Zr.h rfl rfl rfl rfl rfl fun h7 hE7 hW7 hg7 hn7=>?_;refine zy ?_;refine ZAo (k:=1) (l:=rowW x) hw (hE6.trans hE7) rfl rfl rfl rfl rfl Und.h inferInstance rfl rfl (hO1.ext hE7) (ZAs Und.h (by intro k;simp) (ZAP hg7 rfl)) rfl rfl (by omega) (by omega) fun v8 h8 hW8 hO8 hE8=>?_;have hlen1:(r0++[x]).flatMap rowW=r0.flatMap rowW++rowW x:=by rw[List.flatMap_append,List.flatMap_singleton]
  have hK:=ht2 h8 _ v8 (r0++[x]) (by rw[hlen1,List.length_append];exact hO8);have hgn8:h8.get bn=some (.cells (rowW x) 45 false):=hK.p3;have hg58:h8.get b5=some (.cells [.map (some bm)] 93 false):=hK.p2;refine zy ?_;refine ZAy strK (k:=x.a) (v:=v8) hw hE8 rfl Und.h rfl hK rfl rfl fun h9 hW9 hO9 hE9=>?_;rw[<-ZCa x.a v8 (r0++[x]) G] at hO9;refine zy ?_;exact⟨rfl,_,hadd v8,(ZKC hO9).unrot,hE9⟩
 have hO6:Own h h6 (mapI strK bm (kvG G6)::ceI b5 [.map (some bm)] 93 false::(slG rowW 45 6 h G6++[loI h5.nx .defd])):=by
  have h1:Own h h6 (loI h5.nx .defd::ZQX h bm b5 G6):=hO6'.sub (List.Sublist.cons_cons _ (List.sublist_append_left _ _));exact h1.perm (List.perm_append_comm (l₁:=[_]))
 clear hO6' hO5;generalize h5.nx=r5 at hO6 ⊢
 have hmm:∀k,(ZBQ k G6).map Prod.snd=if k∈itmW s then some (plcW s t k) else none:=fun k=>by
  have h1:(ZBQ k G6).isSome=decide (k∈itmW s):=hok6.is k;have h2:rawG k G6=plcW s t k:=hok6.raw k;unfold rawG at h2
  cases hl:ZBQ k G6 with
  | none =>
   rw[hl] at h1;rw[if_neg (fun q=>by rw[decide_eq_true q] at h1;cases h1)];rfl
  | some p =>
   rw[hl] at h1 h2;rw[if_pos (of_decide_eq_true h1.symm)];exact congrArg some h2
 have hon6:=hok6.once;have hg5:h6.get b5=some (.cells [.map (some bm)] 93 false):=hO6.p2;refine zy ?_;refine ZB0 strK hE6 rfl rfl Und.h rfl hO6 fun h7 hW7 hO7 hE7=>?_;replace hE7:=hE6.trans hE7;generalize h6.nx=rr at hO7 ⊢;clear hg5 hO6 hE6 hok6;refine zy ?_;refine ZAN (fun (st:ZMt×List Str) m ds h'=>ds=[r5].map .coll/\Ext h h'/\Own h h' (itI strK bm rr (kvG G6) st.2::ceI b5 [.map (some bm)] 93 false::(slG rowW 45 6 h st.1++[loI r5 .defd]))/\kvG st.1=kvG G6/\(∀k,(ZBQ k st.1).map Prod.snd=if k∈itmW s then some (if k∈st.2 then ZBn s t k else plcW s t k) else none)/\st.2.Nodup/\(∀k∈st.2,k∈itmW s)/\AllK m [(5,.pointer (some ⟨b5,0,none⟩)),(37,.pointer (some ⟨rr,0,none⟩))]) (fun st=>(itmW s).length-st.2.length) (G6,[]) ?_ ?_
 ·exact⟨rfl,hE7,hO7,rfl,fun k=>by rw[hmm];simp,.nil,(fun _ h=>nomatch h),rfl,rfl,trivial⟩
 clear hO7 hE7 hW7 hmm;rintro⟨G,V⟩ m ds h8 ⟨rfl,hE8,hO8,hkv,hlk,hnd,hV,hall⟩;refine Wc.le ?_ (Le.kn hall);clear hall;simp only at hO8 hkv hlk hnd hV ⊢;rw[<-hkv] at hO8;have honG:Once (kvG G):=by rw[hkv];exact hon6
 refine zy ?_;refine ZCG strK hw hE8 rfl rfl rfl honG hO8 (fun hdone=>?_) fun k v h9 hlkv hnk hC hO9 hE9=>?_
 ·have hg5:h8.get b5=some (.cells [.map (some bm)] 93 false):=hO8.p2
  have hOm:Own h h8 ([r5].map (fun r=>loI r .defd)++(mapI strK bm (kvG G)::slG rowW 45 6 h G)):=by
   have h1:Own h h8 (mapI strK bm (kvG G)::ceI b5 [.map (some bm)] 93 false::(slG rowW 45 6 h G++[loI r5 .defd])):=hO8.as (fun hp=>ZG1.mapB strK hp) fun c hc=>.inl hc;have h2:Own h h8 (mapI strK bm (kvG G)::(slG rowW 45 6 h G++[loI r5 .defd])):=h1.sub (List.Sublist.cons_cons _ (List.Sublist.cons _ (List.Sublist.refl _)));exact h2.perm (List.perm_append_comm (l₁:=mapI strK bm (kvG G)::slG rowW 45 6 h G))
  have hcl:ZCr h h8 [r5]:=hOm.colls;refine zy ?_;refine ZAC (ZJz hcl.nd hcl.defd rfl ⟨hcl.ext0 hE8 hw,bm,rfl,G,hOm.del,honG,fun k=>?_⟩);rw[hlk]
  by_cases hk:k∈itmW s
  ·rw[if_pos hk,if_pos hk]
   have h1:=hlk k;rw[if_pos hk] at h1
   cases hl:ZBQ k G with
   | none=>rw[hl] at h1;cases h1
   | some p=>rw[if_pos (hdone k p.1 (by rw[ZCl,hl];rfl))]
  ·rw[if_neg hk,if_neg hk]
 have hkG:ZBQ k G=some (v,plcW s t k)/\k∈itmW s:=by
  rw[ZCl] at hlkv;have h1:=hlk k
  cases hl:ZBQ k G with
  | none=>rw[hl] at hlkv;cases hlkv
  | some p =>
   rw[hl] at hlkv h1
   by_cases hk:k∈itmW s
   ·rw[if_pos hk,if_neg hnk] at h1
    obtain⟨p1,p2⟩:=p;simp only[Option.map_some,Option.some.injEq] at hlkv h1;rw[hlkv,h1];exact⟨rfl,hk⟩
   ·rw[if_neg hk] at h1;cases h1
 obtain⟨hlG,hki⟩:=hkG;obtain⟨Rr,ht1,ht2⟩:=ZFu rowW 45 6 h k G;have hO9':Own h h9 ((itI strK bm rr (kvG G) (k::V)::ceI b5 [.map (some bm)] 93 false :: [loI r5 .defd])++slG rowW 45 6 h G):=hO9.perm (List.Perm.cons _ (List.Perm.cons _ List.perm_append_comm));have hO10:=ht1 _ _ hO9';rw[hlkv] at hO10;have hraw:rawG k G=plcW s t k:=by unfold rawG;rw[hlG];rfl
 rw[hraw] at hO10;refine zy ?_;refine ZDk strK rfl rfl rfl hC ?_;refine zy ?_;refine ZBC fun hw9=>?_;have hFv:ZAF h h9 v 45 6 ((plcW s t k).flatMap rowW) (plcW s t k).length:=hO10.p1;have hpl:(plcW s t k).length<=1000000:=by
  have:=ZG3 s t k;omega
 have hpd:∀x∈plcW s t k,0<=x.day/\x.day<=80000:=fun x hx=>hd x (ZDL.1 (List.mem_filter.1 hx).1).1;refine zR (ZMI hFv hpl (ZPK hup t k) hpd) ?_;rintro _ h11 ⟨rfl,hF11,hX11⟩;have hF12:ZAF h h11 v 45 6 ((ZBn s t k).flatMap rowW) (ZBn s t k).length:=by
  rw[ZFW hup];exact hF11
 have hO11:Own h h11 (slI h v 45 6 ((ZBn s t k).flatMap rowW) (ZBn s t k).length::_):=hO10.put hw9 hE9.2.1 hX11 hF12 fun c hc=>.inl hc;have hE11:Ext h h11:=hO10.grows hX11 hE9 hw;have hO12:=ht2 h11 _ v (ZBn s t k) hO11;have hkvs:kvG (setG k v (ZBn s t k) G)=kvG G:=by
  rw[ZCa]
  rcases ZDy k (kvG G) 0 with ⟨-,g⟩|⟨j,v',-,g,-,e⟩
  ·rw[g] at hlkv;cases hlkv
  ·rw[g] at hlkv;cases hlkv;exact e
 have hlt:V.length+1<=(itmW s).length:=by
  have:=ZBH (List.nodup_cons.2 ⟨hnk,hnd⟩) (m:=itmW s) fun k' hk'=>by
   rcases List.mem_cons.1 hk' with rfl|hk'
   ·exact hki
   ·exact hV k' hk'
  simpa using this
 refine zy ?_;refine⟨(setG k v (ZBn s t k) G,k::V),(by show (itmW s).length-(V.length+1)<(itmW s).length-V.length;omega),rfl,hE11,?_,hkvs.trans hkv,fun k'=>?_,List.nodup_cons.2 ⟨hnk,hnd⟩,fun k' hk'=>?_,rfl,rfl,trivial⟩
 ·simp only
  rw[<-hkv];exact hO12.perm (List.Perm.cons _ (List.Perm.cons _ List.perm_append_comm))
 ·simp only
  rw[ZD1]
  by_cases e:k'=k
  ·subst e
   rw[if_pos rfl,if_pos hki,if_pos List.mem_cons_self];rfl
  ·rw[if_neg e,hlk]
   by_cases hi:k'∈itmW s
   ·rw[if_pos hi,if_pos hi]
    congr 1
    by_cases hv:k'∈V
    ·rw[if_pos hv,if_pos (List.mem_cons_of_mem _ hv)]
    ·rw[if_neg hv,if_neg (fun q=>by
      rcases List.mem_cons.1 q with q|q
      ·exact e q
      ·exact hv q)]
   ·rw[if_neg hi,if_neg hi]
 ·rcases List.mem_cons.1 hk' with rfl|hk'
  ·exact hki
  ·exact hV k' hk'
theorem ZR6 (x:WkR){c3:Nat}{d:Int}{op:Bool}{h:Heap}(hg:h.get c3=some (.cells [i64 d] 3 op)):Sv Tryz.prog 62 [encW x,.pointer (some ⟨c3,0,none⟩)] h (RetP fun v h'=>v=.bool (decide (x.day=d))/\Ext h h'):=by
 refine ZAG Tryz.func62 rfl (by rw[Tryz.ntmps62];rfl) ?_;show Wc Tryz.prog ⟨62,8,none⟩ _ _ _ _ _;refine zy ?_;refine ZAn rfl rfl rfl fun h1 hE1 hW1 hg1 hn1=>?_;have k1:=hE1.get hg;refine zy ?_;refine zD (ZAg rfl rfl) ?_;exact ZAC (ZAD rfl ⟨rfl,hE1⟩)
theorem ZMd {a:Option Addr}{cap c3 k:Nat}{d:Int}{op:Bool}{l:List WkR}{h:Heap}(hI:ZBO 6 (fun _ row x=>row=rowW x) h a l)(hg:h.get c3=some (.cells [i64 d] 3 op))(hk:k<l.length)(hkd:l[k].day=d)(hf:∀j (hj:j<k),l[j].day≠d)(hlen:Len l) :
  Sv Tryz.prog 61 [.slice a l.length cap,.func (.func 62) ⟨[]⟩ ⟨[.pointer (some ⟨c3,0,none⟩)]⟩] h (RetP fun v h'=>v=i64 (k:Nat)/\Ext h h'):=by
 refine ZAG Tryz.func61 rfl (by rw[Tryz.ntmps61];rfl) ?_;show Wc Tryz.prog ⟨61,19,none⟩ _ _ _ _ _;refine zy ?_;refine ZAN (fun (j:Nat) m ds h'=>ds=[]/\Ext h h'/\j<=k/\AllK m [(0,.slice a l.length cap),(1,.func (.func 62) ⟨[]⟩ ⟨[.pointer (some ⟨c3,0,none⟩)]⟩),(7,i64 l.length),(8,i64 (j:Nat))]) (fun j=>k-j) 0 ?_ ?_
 ·exact⟨rfl,Ext.refl _,Nat.zero_le _,rfl,rfl,rfl,rfl,trivial⟩
 rintro j m ds h1 ⟨rfl,hE1,hj,hall⟩;refine Wc.le ?_ (Le.kn hall);clear hall;have hj':j<l.length:=by omega
 obtain⟨b,o,oa,rfl,row,hrow0,hx⟩:=hI j hj';have hrow:=hE1.row hrow0;have hx2:row=rowW l[j]:=hx;have hfj:j<k->¬l[j].day=d:=fun q=>hf j q;have hjd:j=k->l[j].day=d:=fun e=>by subst e;exact hkd
 clear hx hrow0;generalize l[j]=x at *;subst hx2;have hg1:=hE1.get hg;refine zy ?_;refine ZAV rfl rfl rfl rfl (A_tt (by omega) (ZAU rfl rfl)) ?_;refine zy ?_;refine zD (A_ix Und.h Tsz.h rfl rfl) ?_;refine zW (ZR6 x hg1) fun h2 hE2=>?_
 by_cases hjk:j<k
 ·rw[decide_eq_false (hfj hjk)]
  refine zy ?_;exact⟨j+1,(by show k-(j+1)<k-j;omega),rfl,hE1.trans hE2,hjk,rfl,rfl,rfl,rfl,trivial⟩
 ·have:j=k:=by omega
  rw[decide_eq_true (hjd this)];subst this;refine zy ?_;exact ZAC (ZAD rfl ⟨rfl,hE1.trans hE2⟩)
theorem ZQE {a:Option Addr}{cap:Nat}{l:List WkR}{h:Heap}(hI:ZBO 6 (fun _ row x=>row=rowW x) h a l)(hlen:Len l) :
  Sv Tryz.prog 37 [.slice a l.length cap] h (RetP fun v h'=>v=str (ZK0 l)/\Ext h h'):=by
 refine ZAG Tryz.func37 rfl (by rw[Tryz.ntmps37];rfl) ?_;show Wc Tryz.prog ⟨37,21,none⟩ _ _ _ _ _;refine ZBR fun hw=>?_;refine zy ?_
 by_cases h0:l.length=0
 ·have:l=[]:=List.eq_nil_of_length_eq_zero h0
  subst this;refine zD (A_tt (show ((([]:List WkR).length:Nat):Int)=0 from rfl) (ZAg rfl rfl)) ?_;exact ZAC (ZAD rfl ⟨rfl,Ext.refl _⟩)
 have hne:l≠[]:=fun e=>h0 (by rw[e];rfl);refine ZAV rfl rfl rfl rfl (A_ff (show ¬((l.length:Nat):Int)=0 by omega) (ZAg rfl rfl)) ?_;have hz:l.length-1<l.length:=by omega
 have hlast:l.getLast?=some l[l.length-1]:=by rw[List.getLast?_eq_getElem?,List.getElem?_eq_getElem hz]
 obtain⟨k,hk,hkd,hf⟩:∃k,∃hk:k<l.length,l[k].day=l[l.length-1].day/\∀j (hj:j<k),l[j].day≠l[l.length-1].day:=by
  have hlt:l.findIdx (fun x=>decide (x.day=l[l.length-1].day))<l.length:=List.findIdx_lt_length_of_exists ⟨l[l.length-1],List.getElem_mem hz,decide_eq_true rfl⟩;refine⟨_,hlt,?_,fun j hj e=>?_⟩
  ·have:=List.findIdx_getElem (w:=hlt)
   exact of_decide_eq_true this
  ·have:=List.not_of_lt_findIdx hj
   rw[e] at this;simp at this
 have hS:ZK0 l=l[k].b:=by
  have hfd:l.find? (fun x=>decide (x.day=l[l.length-1].day))=some l[k]:=by
   rw[List.find?_eq_some_iff_getElem];exact⟨decide_eq_true hkd,k,hk,rfl,fun j hj=>by simpa using hf j hj⟩
  unfold ZK0;rw[hlast];simp only[hfd]
  rfl
 obtain⟨b,o,oa,rfl,row,hrow,hx⟩:=hI _ hz;have hx2:row=rowW l[l.length-1]:=hx;obtain⟨b',o',oa',e',rowk,hrowk,hxk⟩:=hI k hk;cases e';have hxk2:rowk=rowW l[k]:=hxk;clear hx hxk;have hI':=fun (h2:Heap) (hE:Ext h h2) (c3:Nat) (op:Bool) (hg:h2.get c3=some (.cells [i64 l[l.length-1].day] 3 op))=>ZMd (cap:=cap) (k:=k) (ZBO.ext (fun hr _=>hr) hI hE) hg hk hkd hf hlen;rw[hS];generalize l[l.length-1]=z at *;generalize l[k]=y at *;subst hx2;subst hxk2;have hcz:ZAS h b (o+(l.length-1)*6+2)=some (i64 z.day):=ZAK (k:=2) hrow rfl;refine zy ?_;refine ZAV rfl rfl rfl rfl (ZAE (k:=l.length-1) (z:=((l.length:Nat):Int)-1) Und.h Tsz.h rfl rfl (by omega) hz) ?_
 refine zy ?_;refine ZAJ rfl rfl Zr.h Tsz.h rfl (fun _=>rfl) rfl rfl rfl fun h2 hE2 hW2 hg2 hn2=>?_;refine zy ?_;refine zW (hI' h2 hE2 _ _ hg2) fun h3 hE3=>?_;have hcy:ZAS h3 b (o+k*6+5)=some (str y.b):=ZAK (k:=5) ((hE2.trans hE3).row hrowk) rfl;refine zy ?_;refine zD (A_ix Und.h Tsz.h rfl rfl) ?_;exact ZAC (ZAD rfl ⟨rfl,hE2.trans hE3⟩)
theorem ZPr (l:List WkR):(ZAk (mrgU ltW l)).Pairwise ltW:=(ZEF ZA0 l).filter _
theorem ZFB {l:List WkR}{x:WkR}(h:x∈ZAk (mrgU ltW l)):x∈l:=(ZBS ZA0).1 (List.mem_filter.1 h).1
theorem ZIB (l:List WkR):(ZAk (mrgU ltW l)).length<=l.length:=Nat.le_trans (List.length_filter_le _ _) (ZFU ZA0 l)
theorem ZM3 {x:WkR}(h:ZBG x=0):0<=x.day/\x.day<=80000:=by
 unfold ZBG at h
 split at h
 ·exact absurd h (by decide)
 split at h
 ·exact absurd h (by decide)
 ·omega
def ZH8 (l:List WkR)(k:Str)(t:Int):Str×Int :=
 if (chkS l).2≠0 then ([],(chkS l).2) else if k ∉ itmW (ZAk (mrgU ltW l)) then ([],4) else if t<0\/80000<t then ([],7) else (ZC0 (ZAk (mrgU ltW l)) t k,0)
theorem ZJ9 {a:Option Addr}{cap:Nat}{l:List WkR}{h:Heap}{k:Str}{t:Int}(hR:SrcK rowW 6 h a l)(hn:a=none->l=[]/\cap=0)(hf:∀x∈l,x.Fit)(hlen:Len l)(hL:WkLib h) :
  Sv Tryz.prog 9 [.slice a l.length cap,str k,i64 t] h (RetP fun v h'=>v=.tuple ⟨[str (ZH8 l k t).1,i64 (ZH8 l k t).2]⟩/\Ext h h'):=by
 have hop:=ZGS hR hn hf hlen hL;unfold ZKq at hop;have hcl:=ZE9 (l:=l);have hcg:=ZEa (l:=l);unfold ZH8;generalize chkS l=ck at *;refine ZAG Tryz.func9 rfl (by rw[Tryz.ntmps9];rfl) ?_;show Wc Tryz.prog ⟨9,38,none⟩ _ _ _ _ _;refine zy ?_;refine ZAa rfl rfl rfl rfl rfl Bod.h rfl rfl hop ?_;rintro _ h1 ⟨⟨hc,rfl⟩|⟨hc,aS,af,rfl,hS,-⟩,hE1⟩
 ·refine zy ?_
  refine zD (A_tt hc (ZAh rfl rfl)) ?_;rw[if_pos hc];exact ZAC (ZAD rfl ⟨rfl,hE1⟩)
 rw[if_neg (fun q=>q hc)];have hl2:=hcl hc;replace hcg:=hcg hc;have hup:=ZPr l;have hsl:(ZAk (mrgU ltW l)).length<=200:=Nat.le_trans (ZIB l) hl2;have hsd:∀x∈ZAk (mrgU ltW l),0<=x.day/\x.day<=80000:=fun x hx=>ZM3 (hcg x (ZFB hx));clear hcl hcg hop;generalize ZAk (mrgU ltW l)=S at *;generalize ZCB (mrgU ltW l)=F at *;refine zy ?_;refine zD (A_ff (fun q=>q rfl) (ZAh rfl rfl)) ?_;refine zR (ZJi (t:=t) hS hup hsl hsd) ?_;rintro _ h2 ⟨hE2,bm,rfl,G,hO,hon,hlk⟩;have hE12:=hE1.trans hE2;have hmp:MapB strK h2 bm (kvG G):=hO.p1;have hlk2:=hlk k;refine zy ?_
 by_cases hk:k∈itmW S
 rotate_left
 ·rw[if_neg hk] at hlk2
  have hno:ZBQ k G=none:=by
   cases hl:ZBQ k G with
   | none=>rfl
   | some p=>rw[hl] at hlk2;cases hlk2
  rw[if_pos hk];refine zD (ZAZ strK (k:=k) (v:=.slice none 0 0) (q:=false) Und.h Zr.h rfl hmp rfl (by rw[ZCl,hno];rfl) (by rw[ZCl,hno];rfl)) ?_;exact ZAC (ZAD rfl ⟨rfl,hE12⟩)
 rw[if_pos hk] at hlk2;rw[if_neg (fun q=>q hk)];obtain⟨v,hl⟩:∃v,ZBQ k G=some (v,ZBn S t k):=by
  cases hl:ZBQ k G with
  | none=>rw[hl] at hlk2;cases hlk2
  | some p =>
   rw[hl] at hlk2;obtain⟨p1,p2⟩:=p;simp only[Option.map_some,Option.some.injEq] at hlk2;rw[hlk2];exact⟨p1,rfl⟩
 obtain⟨av,ev,hSv,hnv⟩:=ZAF.rowsAt (enc:=rowW) (k:=6) (fun _=>rfl) (show ZAF h1 h2 v 45 6 _ _ from hO.tail.has _ (ZHS rowW 45 6 (h0:=h1) hl)) rfl;subst ev;have hspl:Len (ZBn S t k):=by
  have h1:=ZFW hup t k;have h2:=ZG3 S t k
  show (ZBn S t k).length<_
  omega
 refine zD (ZAZ strK (k:=k) (v:=.slice av (ZBn S t k).length (ZBn S t k).length) (q:=true) Und.h Zr.h rfl hmp rfl (by rw[ZCl,hl];rfl) (by rw[ZCl,hl];rfl)) ?_;refine zU (ZGI _ _ _ _) ?_
 by_cases ht:t<0\/80000<t
 ·rw[decide_eq_true ht,if_pos ht]
  refine zy ?_;exact ZAC (ZAD rfl ⟨rfl,hE12⟩)
 rw[decide_eq_false ht,if_neg ht];refine zy ?_;refine zW (ZQE hSv.1 hspl) fun h3 hE3=>?_;refine zy ?_;exact ZAC (ZAD rfl ⟨rfl,hE12.trans hE3⟩)
end Go.Dw
