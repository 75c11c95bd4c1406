/- G1: contracts: the document's look at records. -/
import Derived.Test.YthlmgoefjmlndaaGreatDoorYG2
import Derived.Test.YthlmgoefjmlndaaGreatDoorYG18
set_option linter.unusedVariables false
set_option linter.unusedSimpArgs false
namespace Go.Dw
open Go Go.Dx Go.Proofs
set_option maxRecDepth 100000
theorem ZTf {P:Program}{m:Mem}{h:Heap}{d:Option Tmp}{ty:TypeId}{pos:String}{af:Array Edge}{gu:Option (Nat×Bool)}{t tz:TypeId}{x y:Operand}{a b c:Int}(hx:opk h m x=some (.int .u8 a))(hy:opk h m y=some (.int .u8 b))(hc:a-b=c)(h1:0<=c)(h2:c<256):Aop P ⟨d,.binOp .sub t x y tz,ty,pos,af,gu⟩ m h (.int .u8 c) h :=
 ZCp hx hy rfl rfl rfl fun w=>by
  have:IntKind.u8.wrap (a-b)=c:=by
   rw[hc];simp[IntKind.wrap,IntKind.bits,IntKind.signed];omega
  simp only[Sem.run_bind,ZBJ,Result.andThen_ok];simp[binOp,Op.intArith,this]
theorem ZLr (l:Str)(h:Heap)(hlen:Len l):Sv Tryz.prog 103 [str l] h (RetP fun v h'=>v=.bool (ZC8 l)/\h'=h):=by
 refine ZAG Tryz.func103 rfl (by rw[Tryz.ntmps103];rfl) ?_;show Wc Tryz.prog ⟨103,33,none⟩ _ _ _ _ _;refine zy ?_;refine ZCP rfl rfl rfl rfl rfl Bod.h rfl rfl (ZJf _ _ _ _) (fun h1=>?_) (fun h1=>?_);rotate_left
 ·refine zy ?_
  have:¬(1<=l.length/\l.length<=40):=by have:=of_decide_eq_false h1;omega
  exact ZAE (ZAF rfl ⟨by simp only[ZC8,decide_eq_false this,Bool.false_and];rfl,rfl⟩)
 have h1':1<=l.length/\l.length<=40:=by have:=of_decide_eq_true h1;omega
 have h0:0<l.length:=by omega
 have hlast:l.length-1<l.length:=by omega
 have hh:l.head?=some l[0]:=by rw[List.head?_eq_getElem?,List.getElem?_eq_getElem h0]
 have hl:l.getLast?=some l[l.length-1]:=by rw[List.getLast?_eq_getElem?,List.getElem?_eq_getElem hlast]
 refine zy ?_;refine ZAD rfl rfl rfl rfl (ZAa (k:=0) Und.h rfl rfl rfl h0) ?_
 by_cases c0:l[0]=32
 ·refine ZAD rfl rfl rfl rfl (A_tt (show (l[0].toNat:Int)=32 by rw[c0];rfl) (ZAh rfl rfl)) ?_
  refine zy ?_;exact ZAE (ZAF rfl ⟨by simp[ZC8,hh,c0];rfl,rfl⟩)
 refine ZAD rfl rfl rfl rfl (A_ff (show ¬(l[0].toNat:Int)=32 from fun q=>c0 (UInt8.toNat_inj.1 (show l[0].toNat=32 by omega))) (ZAh rfl rfl)) ?_;refine zy ?_;refine ZAD rfl rfl rfl rfl (ZAa (k:=l.length-1) Und.h rfl rfl (by omega) hlast) ?_
 by_cases c1:l[l.length-1]=32
 ·refine ZAD rfl rfl rfl rfl (A_tt (show (l[l.length-1].toNat:Int)=32 by rw[c1];rfl) (ZAh rfl rfl)) ?_
  refine zy ?_;exact ZAE (ZAF rfl ⟨by simp[ZC8,hl,c1];rfl,rfl⟩)
 refine ZAD rfl rfl rfl rfl (A_ff (show ¬(l[l.length-1].toNat:Int)=32 from fun q=>c1 (UInt8.toNat_inj.1 (show l[l.length-1].toNat=32 by omega))) (ZAh rfl rfl)) ?_;have hT:ZC8 l=l.all priB:=by
  unfold ZC8;rw[hh,hl,decide_eq_true h1',decide_eq_true (by simpa using c0),decide_eq_true (by simpa using c1)]
  rfl
 clear hh hl;refine zy ?_;refine ZAQ (fun (k:Nat) m ds h'=>ds=[]/\h=h'/\k<=l.length/\(∀j (hj:j<l.length),j<k->priB l[j]=true)/\AllK m [(0,str l),(3,i64 (k:Nat))]) (fun k=>l.length-k) 0 ?_ ?_
 ·exact⟨rfl,rfl,Nat.zero_le _,(fun _ _ hj=>by omega),rfl,rfl,trivial⟩
 rintro k m ds h' ⟨rfl,rfl,hk,hok,hall⟩;refine Wc.le ?_ (Le.kn hall);clear hall;refine zy ?_;refine ZAN rfl rfl rfl rfl (ZAY rfl rfl) (fun hkl=>?_) (fun hkl=>?_);rotate_left
 ·refine zy ?_
  have:l.all priB=true:=by
   rw[List.all_eq_true];intro x hx;obtain⟨j,hj,rfl⟩:=List.getElem_of_mem hx;exact hok j hj (by omega)
  exact ZAE (ZAF rfl ⟨by rw[hT,this];rfl,rfl⟩)
 have hk':k<l.length:=by omega
 have hbad:priB l[k]=false->l.all priB=false:=fun q=>List.all_eq_false.2 ⟨l[k],List.getElem_mem hk',by simp[q]⟩
 have hnext:priB l[k]=true->∀j (hj:j<l.length),j<k+1->priB l[j]=true:=fun q j hj hlt=>by
  by_cases e:j=k
  ·subst e;exact q
  ·exact hok j hj (by omega)
 refine zy ?_;refine ZAD rfl rfl rfl rfl (ZAa (k:=k) Und.h rfl rfl rfl hk') ?_;refine ZAD rfl rfl rfl rfl (ZCh (n':=(l[k].toNat:Int)) ⟨_,Und.h⟩ Und.h rfl (show IntKind.i64.wrap (l[k].toNat:Int)=(l[k].toNat:Int) from IntWalk.i64_in _ (by have:=l[k].toNat_lt;omega))) ?_;refine ZAR rfl rfl rfl rfl rfl Bod.h rfl rfl (ZJf _ _ _ _) ?_;have hp:decide ((32:Int)<=(l[k].toNat:Int)/\(l[k].toNat:Int)<=126)=priB l[k]:=by
  unfold priB;rw[decide_eq_decide];omega
 rw[hp]
 cases hq:priB l[k] with
 | true =>
  refine zy ?_;exact⟨k+1,(by show l.length-(k+1)<l.length-k;omega),rfl,rfl,hk',hnext hq,rfl,rfl,trivial⟩
 | false =>
  refine zy ?_;exact ZAE (ZAF rfl ⟨by rw[hT,hbad hq];rfl,rfl⟩)
theorem ZGN (l:Str)(h:Heap)(hlen:Len l):Sv Tryz.prog 104 [str l] h (RetP fun v h'=>v=i64 (numR l:Nat)/\h'=h):=by
 refine ZAG Tryz.func104 rfl (by rw[Tryz.ntmps104];rfl) ?_;show Wc Tryz.prog ⟨104,39,none⟩ _ _ _ _ _;refine zy ?_;refine ZCP rfl rfl rfl rfl rfl Bod.h rfl rfl (ZJf _ _ _ _) (fun h1=>?_) (fun h1=>?_);rotate_left
 ·refine zy ?_
  have:¬(1<=l.length/\l.length<=4):=by have:=of_decide_eq_false h1;omega
  exact ZAE (ZAF rfl ⟨by unfold numR;rw[if_neg (fun q=>this q.1)];rfl,rfl⟩)
 have h1':1<=l.length/\l.length<=4:=by have:=of_decide_eq_true h1;omega
 have h0:0<l.length:=by omega
 have hh:l.head?=some l[0]:=by rw[List.head?_eq_getElem?,List.getElem?_eq_getElem h0]
 refine zy ?_;refine ZAD rfl rfl rfl rfl (ZAa (k:=0) Und.h rfl rfl rfl h0) ?_
 by_cases c0:l[0]=48
 ·refine ZAD rfl rfl rfl rfl (A_tt (show (l[0].toNat:Int)=48 by rw[c0];rfl) (ZAh rfl rfl)) ?_
  refine zy ?_;exact ZAE (ZAF rfl ⟨by unfold numR;rw[if_neg (fun q=>q.2.1 (by rw[hh,c0]))];rfl,rfl⟩)
 refine ZAD rfl rfl rfl rfl (A_ff (show ¬(l[0].toNat:Int)=48 from fun q=>c0 (UInt8.toNat_inj.1 (show l[0].toNat=48 by omega))) (ZAh rfl rfl)) ?_;have hN:numR l=if l.all isD=true then valG 0 l else 0:=by
  unfold numR
  by_cases q:l.all isD=true
  ·rw[if_pos ⟨h1',by rw[hh];simpa using c0,q⟩,if_pos q]
  ·rw[if_neg (fun z=>q z.2.2),if_neg q]
 clear hh;have hv4:∀k,k<=l.length->valG 0 (l.take k)<=100000\/True:=fun _ _=>.inr trivial;refine zy ?_;refine ZAQ (fun (k:Nat) m ds h'=>ds=[]/\h=h'/\k<=l.length/\(l.take k).all isD=true/\AllK m [(0,str l),(3,i64 (valG 0 (l.take k):Nat)),(4,i64 (k:Nat))]) (fun k=>l.length-k) 0 ?_ ?_
 ·exact⟨rfl,rfl,Nat.zero_le _,rfl,rfl,rfl,rfl,trivial⟩
 rintro k m ds h' ⟨rfl,rfl,hk,hok,hall⟩;refine Wc.le ?_ (Le.kn hall);clear hall;refine zy ?_;refine ZAN rfl rfl rfl rfl (ZAY rfl rfl) (fun hkl=>?_) (fun hkl=>?_);rotate_left
 ·have hkl':k=l.length:=by omega
  subst hkl';rw[List.take_length] at hok ⊢;refine zy ?_;exact ZAE (ZAF rfl ⟨by rw[hN,if_pos hok];rfl,rfl⟩)
 have hk':k<l.length:=by omega
 have htk:l.take (k+1)=l.take k++[l[k]]:=by rw[List.take_add_one,List.getElem?_eq_getElem hk'];rfl
 have hbad:isD l[k]=false->l.all isD=false:=fun q=>List.all_eq_false.2 ⟨l[k],List.getElem_mem hk',by simp[q]⟩;have hvs:=ZG1 0 (l.take k) l[k];have hvl:=ZMD (l.take k) 0 hok;have hpw:(10:Nat) ^ (l.take k).length<=10 ^ 4:=Nat.pow_le_pow_right (by decide) (by rw[List.length_take];omega);have hc:=l[k].toNat_lt;rw[<-htk] at hvs;have hv5:valG 0 (l.take k)<10000:=by
  have e:(10:Nat) ^ 4=10000:=by decide
  rw[e] at hpw;omega
 refine zy ?_;refine ZAD rfl rfl rfl rfl (ZAa (k:=k) Und.h rfl rfl rfl hk') ?_
 by_cases d1:l[k].toNat<48
 ·refine ZAD rfl rfl rfl rfl (A_tt (show (l[k].toNat:Int)<48 by omega) (ZAY rfl rfl)) ?_
  refine zy ?_;have hf:=hbad (decide_eq_false (by omega));exact ZAE (ZAF rfl ⟨by rw[hN,if_neg (by rw[hf];simp)];rfl,rfl⟩)
 refine ZAD rfl rfl rfl rfl (A_ff (show ¬(l[k].toNat:Int)<48 by omega) (ZAY rfl rfl)) ?_;refine zy ?_;refine ZAD rfl rfl rfl rfl (ZAa (k:=k) Und.h rfl rfl rfl hk') ?_
 by_cases d2:57<l[k].toNat
 ·refine ZAD rfl rfl rfl rfl (A_tt (show (57:Int)<(l[k].toNat:Int) by omega) (ZCb rfl rfl)) ?_
  refine zy ?_;have hf:=hbad (decide_eq_false (by omega));exact ZAE (ZAF rfl ⟨by rw[hN,if_neg (by rw[hf];simp)];rfl,rfl⟩)
 refine ZAD rfl rfl rfl rfl (A_ff (show ¬(57:Int)<(l[k].toNat:Int) by omega) (ZCb rfl rfl)) ?_;refine zy ?_;refine ZAD rfl rfl rfl rfl (ZKf (c:=((10*valG 0 (l.take k):Nat):Int)) rfl rfl (by omega) (by omega) (by omega)) ?_;refine zy ?_;refine ZAD rfl rfl rfl rfl (ZAa (k:=k) Und.h rfl rfl rfl hk') ?_;refine ZAD rfl rfl rfl rfl (ZTf (c:=((l[k].toNat-48:Nat):Int)) rfl rfl (by omega) (by omega) (by omega)) ?_;refine ZAD rfl rfl rfl rfl (ZCh (n':=((l[k].toNat-48:Nat):Int)) ⟨_,Und.h⟩ Und.h rfl (show IntKind.i64.wrap ((l[k].toNat-48:Nat):Int)=((l[k].toNat-48:Nat):Int) from IntWalk.i64_in _ (by omega))) ?_
 refine ZAD rfl rfl rfl rfl (ZSr rfl rfl (by omega) (by omega)) ?_;refine zy ?_;refine⟨k+1,(by show l.length-(k+1)<l.length-k;omega),rfl,rfl,hk',?_,rfl,?_,rfl,trivial⟩
 ·rw[htk,List.all_append,hok]
  have:isD l[k]=true:=decide_eq_true (by omega);simp[this]
 ·show _=some (i64 ((valG 0 (l.take (k+1)):Nat):Int))
  rw[hvs]
  show some (Value.int .i64 _)=some (Value.int .i64 _)
  congr 2
end Go.Dw
namespace Go.Dw
open Go Go.Dx Go.Proofs
set_option maxRecDepth 100000
set_option maxHeartbeats 4000000 in
theorem ZKV {x:WkR}{h:Heap}(hf:x.Fit):Sv Tryz.prog 58 [encW x] h (RetP fun v h'=>v=i64 (ZAw x)/\Ext h h'):=by
 have hrec:ZAw x=ZAw x:=rfl
 conv at hrec=>rhs;unfold ZAw
 generalize hre:ZAw x=e at *;refine ZAG Tryz.func58 rfl (by rw[Tryz.ntmps58];rfl) ?_;show Wc Tryz.prog ⟨58,61,none⟩ _ _ _ _ _;refine zy ?_;refine ZBO rfl rfl rfl fun h1 hE1 hW1 hg1 hn1=>?_;refine zy ?_;refine ZAR rfl rfl rfl rfl rfl Bod.h rfl rfl (ZCV x.archive h1 (show x.archive.length<_ by have:=hf.archive;omega)) ?_;rw[<-ZFu]
 cases hn:ZAu x.archive with
 | false =>
  rw[hn,if_pos rfl] at hrec;refine zy ?_;exact ZAE (ZAF rfl ⟨by rw[hrec];rfl,hE1⟩)
 | true =>
 rw[hn,if_neg (show ¬true=false by decide)] at hrec;refine zy ?_;refine ZAR rfl rfl rfl rfl rfl Bod.h rfl rfl (ZJf _ _ _ _) ?_
 by_cases r1:1<=x.number/\x.number<=9999
 rotate_left
 ·rw[decide_eq_false r1]
  rw[if_pos (show (x.number<1\/9999<x.number)\/(x.day<0\/80000<x.day) by omega)] at hrec;refine zy ?_;exact ZAE (ZAF rfl ⟨by rw[hrec];rfl,hE1⟩)
 rw[decide_eq_true r1];refine zy ?_;refine ZAR rfl rfl rfl rfl rfl Bod.h rfl rfl (ZJf _ _ _ _) ?_
 by_cases r2:0<=x.day/\x.day<=80000
 rotate_left
 ·rw[decide_eq_false r2]
  rw[if_pos (show (x.number<1\/9999<x.number)\/(x.day<0\/80000<x.day) by omega)] at hrec;refine zy ?_;exact ZAE (ZAF rfl ⟨by rw[hrec];rfl,hE1⟩)
 rw[decide_eq_true r2];rw[if_neg (show ¬((x.number<1\/9999<x.number)\/(x.day<0\/80000<x.day)) by omega)] at hrec;refine zy ?_;refine ZAR rfl rfl rfl rfl rfl Bod.h rfl rfl (ZJf _ _ _ _) ?_
 by_cases r3:1<=x.kind/\x.kind<=6
 rotate_left
 ·rw[decide_eq_false r3]
  rw[if_pos (show x.kind<1\/6<x.kind by omega)] at hrec;refine zy ?_;exact ZAE (ZAF rfl ⟨by rw[hrec];rfl,hE1⟩)
 rw[decide_eq_true r3];rw[if_neg (show ¬(x.kind<1\/6<x.kind) by omega)] at hrec;have hlb:x.b.length<9223372036854775808:=by have:=hf.b;omega
 refine zy ?_;refine ZAR rfl rfl rfl rfl rfl Bod.h rfl rfl (ZCV x.b h1 hlb) ?_;rw[<-ZFu];refine zy ?_
 by_cases k4:x.kind=4
 ·refine ZAD rfl rfl rfl rfl (A_tt k4 (ZAh rfl rfl)) ?_
  refine zy ?_;refine ZAR rfl rfl rfl rfl rfl Bod.h rfl rfl (ZLr x.b h1 hlb) ?_;refine zy ?_;refine ZAD rfl rfl rfl rfl (A_ff (show ¬x.kind=6 by omega) (ZAh rfl rfl)) ?_;have hgx:ZDv x=ZC8 x.b:=by unfold ZDv;rw[if_pos k4]
  rw[hgx] at hrec;refine zy ?_;refine ZAR rfl rfl rfl rfl rfl Bod.h rfl rfl (ZCV x.a h1 (show x.a.length<_ by have:=hf.a;omega)) ?_;rw[<-ZFu]
  cases ha:ZAu x.a with
  | false =>
   rw[ha] at hrec;refine zy ?_;exact ZAE (ZAF rfl ⟨by rw[hrec];rfl,hE1⟩)
  | true =>
  rw[ha,Bool.true_and] at hrec;refine zy ?_
  cases hg:ZC8 x.b with
  | false =>
   rw[hg] at hrec;refine zy ?_;exact ZAE (ZAF rfl ⟨by rw[hrec];rfl,hE1⟩)
  | true =>
  rw[hg,if_neg (show ¬true=false by decide)] at hrec;refine zy ?_;refine ZAD rfl rfl rfl rfl (A_ff (show ¬x.kind=2 by omega) (ZAh rfl rfl)) ?_;refine zy ?_;refine ZAD rfl rfl rfl rfl (A_ff (show ¬x.kind=3 by omega) (ZAh rfl rfl)) ?_;refine zy ?_;rw[if_neg (show ¬((x.kind=2\/x.kind=3)/\x.a=x.b) from fun q=>by omega)] at hrec;exact ZAE (ZAF rfl ⟨by rw[hrec];rfl,hE1⟩)
 refine ZAD rfl rfl rfl rfl (A_ff k4 (ZAh rfl rfl)) ?_;refine zy ?_
 by_cases k6:x.kind=6
 ·refine ZAD rfl rfl rfl rfl (A_tt k6 (ZAh rfl rfl)) ?_
  refine zy ?_;refine ZAR rfl rfl rfl rfl rfl Bod.h rfl rfl (ZGN x.b h1 hlb) ?_;refine zy ?_;have hgt:decide ((0:Int)<((numR x.b:Nat):Int))=decide (0<numR x.b):=by rw[decide_eq_decide];omega
  refine ZAD rfl rfl rfl rfl (ZCb rfl rfl) ?_;rw[hgt];have hgx:ZDv x=decide (0<numR x.b):=by unfold ZDv;rw[if_neg k4,if_pos k6]
  rw[hgx] at hrec;refine zy ?_;refine ZAR rfl rfl rfl rfl rfl Bod.h rfl rfl (ZCV x.a h1 (show x.a.length<_ by have:=hf.a;omega)) ?_;rw[<-ZFu]
  cases ha:ZAu x.a with
  | false =>
   rw[ha] at hrec;refine zy ?_;exact ZAE (ZAF rfl ⟨by rw[hrec];rfl,hE1⟩)
  | true =>
  rw[ha,Bool.true_and] at hrec;refine zy ?_
  cases hg:decide (0<numR x.b) with
  | false =>
   rw[hg] at hrec;refine zy ?_;exact ZAE (ZAF rfl ⟨by rw[hrec];rfl,hE1⟩)
  | true =>
  rw[hg,if_neg (show ¬true=false by decide)] at hrec;refine zy ?_;refine ZAD rfl rfl rfl rfl (A_ff (show ¬x.kind=2 by omega) (ZAh rfl rfl)) ?_;refine zy ?_;refine ZAD rfl rfl rfl rfl (A_ff (show ¬x.kind=3 by omega) (ZAh rfl rfl)) ?_;refine zy ?_;rw[if_neg (show ¬((x.kind=2\/x.kind=3)/\x.a=x.b) from fun q=>by omega)] at hrec;exact ZAE (ZAF rfl ⟨by rw[hrec];rfl,hE1⟩)
 refine ZAD rfl rfl rfl rfl (A_ff k6 (ZAh rfl rfl)) ?_;have hgx:ZDv x=ZAu x.b:=by unfold ZDv;rw[if_neg k4,if_neg k6]
 rw[hgx] at hrec;refine zy ?_;refine ZAR rfl rfl rfl rfl rfl Bod.h rfl rfl (ZCV x.a h1 (show x.a.length<_ by have:=hf.a;omega)) ?_;rw[<-ZFu]
 cases ha:ZAu x.a with
 | false =>
  rw[ha] at hrec;refine zy ?_;exact ZAE (ZAF rfl ⟨by rw[hrec];rfl,hE1⟩)
 | true =>
 rw[ha,Bool.true_and] at hrec;refine zy ?_
 cases hg:ZAu x.b with
 | false =>
  rw[hg] at hrec;refine zy ?_;exact ZAE (ZAF rfl ⟨by rw[hrec];rfl,hE1⟩)
 | true =>
 rw[hg,if_neg (show ¬true=false by decide)] at hrec;refine zy ?_
 by_cases k2:x.kind=2
 ·refine ZAD rfl rfl rfl rfl (A_tt k2 (ZAh rfl rfl)) ?_
  refine zy ?_
  by_cases hab:x.a=x.b
  ·rw[if_pos ⟨.inl k2,hab⟩] at hrec
   refine ZAD rfl rfl rfl rfl (A_tt hab (ZAf rfl rfl)) ?_;refine zy ?_;exact ZAE (ZAF rfl ⟨by rw[hrec];rfl,hE1⟩)
  ·rw[if_neg (fun q=>hab q.2)] at hrec
   refine ZAD rfl rfl rfl rfl (A_ff hab (ZAf rfl rfl)) ?_;refine zy ?_;exact ZAE (ZAF rfl ⟨by rw[hrec];rfl,hE1⟩)
 refine ZAD rfl rfl rfl rfl (A_ff k2 (ZAh rfl rfl)) ?_;refine zy ?_
 by_cases k3:x.kind=3
 ·refine ZAD rfl rfl rfl rfl (A_tt k3 (ZAh rfl rfl)) ?_
  refine zy ?_
  by_cases hab:x.a=x.b
  ·rw[if_pos ⟨.inr k3,hab⟩] at hrec
   refine ZAD rfl rfl rfl rfl (A_tt hab (ZAf rfl rfl)) ?_;refine zy ?_;exact ZAE (ZAF rfl ⟨by rw[hrec];rfl,hE1⟩)
  ·rw[if_neg (fun q=>hab q.2)] at hrec
   refine ZAD rfl rfl rfl rfl (A_ff hab (ZAf rfl rfl)) ?_;refine zy ?_;exact ZAE (ZAF rfl ⟨by rw[hrec];rfl,hE1⟩)
 refine ZAD rfl rfl rfl rfl (A_ff k3 (ZAh rfl rfl)) ?_;rw[if_neg (show ¬((x.kind=2\/x.kind=3)/\x.a=x.b) from fun q=>by omega)] at hrec;refine zy ?_;exact ZAE (ZAF rfl ⟨by rw[hrec];rfl,hE1⟩)
theorem ZE4 {a:Option Addr}{cap:Nat}{l:List WkR}{h:Heap}(hR:ZDC h a l)(hf:∀x∈l,x.Fit)(hlen:Len l) :
  Sv Tryz.prog 20 [.slice a l.length cap] h (RetP fun v h'=>v=.tuple ⟨[i64 (chkS l).1,i64 (chkS l).2]⟩/\Ext h h'):=by
 refine ZAG Tryz.func20 rfl (by rw[Tryz.ntmps20];rfl) ?_;show Wc Tryz.prog ⟨20,24,none⟩ _ _ _ _ _;refine zy ?_;refine ZAN rfl rfl rfl rfl (ZCb rfl rfl) (fun h1=>?_) (fun h1=>?_)
 ·refine zy ?_
  exact ZAE (ZAF rfl ⟨by unfold chkS;rw[if_pos (by omega)];rfl,Ext.refl _⟩)
 have hS:chkS l=ZEj 0 l:=by unfold chkS;rw[if_neg (by omega)]
 refine zy ?_;refine ZAQ (fun (k:Nat) m ds h'=>ds=[]/\Ext h h'/\k<=l.length/\chkS l=ZEj k (l.drop k)/\AllK m [(0,.slice a l.length cap),(4,i64 (k:Nat))]) (fun k=>l.length-k) 0 ?_ ?_
 ·exact⟨rfl,Ext.refl _,Nat.zero_le _,hS,rfl,rfl,trivial⟩
 rintro k m ds h1 ⟨rfl,hE,hk,hF,hall⟩;refine Wc.le ?_ (Le.kn hall);clear hall;refine zy ?_;refine ZAN rfl rfl rfl rfl (ZAY rfl rfl) (fun h1=>?_) (fun h1=>?_);rotate_left
 ·refine zy ?_
  have:k=l.length:=by omega
  subst this;rw[List.drop_length] at hF;exact ZAE (ZAF rfl ⟨by rw[hF];rfl,hE⟩)
 have hk':k<l.length:=by omega
 rw[List.drop_eq_getElem_cons hk',ZEj] at hF;obtain⟨b,o,oa,rfl,row,hrow,hx⟩:=hR k hk';have hf':=hf _ (List.getElem_mem hk');generalize l[k]=x at hF hx hf';have hx':row=rowW x:=hx;subst hx';have hrow1:=hE.row hrow;refine zy ?_;refine ZAD rfl rfl rfl rfl (A_ix Und.h Tsz.h rfl rfl) ?_;refine zy ?_;refine ZAV rfl rfl rfl rfl rfl Bod.h rfl rfl (ZKV hf') fun h4 hE4=>?_;refine zy ?_;refine ZAN rfl rfl rfl rfl (ZA3 rfl rfl) (fun h5=>?_) (fun h5=>?_)
 ·refine zy ?_
  rw[if_pos h5] at hF;exact ZAE (ZAF rfl ⟨by rw[hF];rfl,hE.trans hE4⟩)
 ·refine zy ?_
  rw[if_neg h5] at hF;exact⟨k+1,(by show l.length-(k+1)<l.length-k;omega),rfl,hE.trans hE4,hk',hF,rfl,rfl,trivial⟩
end Go.Dw
