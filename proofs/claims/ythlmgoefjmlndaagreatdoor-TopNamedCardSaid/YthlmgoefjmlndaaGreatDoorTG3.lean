/- C1: contracts of small functions of chapter 04. -/
import Derived.Test.YthlmgoefjmlndaaGreatDoorTG2
import Derived.Test.YthlmgoefjmlndaaGreatDoorTTy
set_option linter.unusedVariables false
set_option linter.unusedSimpArgs false
namespace Go.Dw
open Go Go.Dx Go.Proofs
set_option maxRecDepth 100000
theorem ZA9 (a lo hi:Int)(h:Heap):Sv Tryz.prog 140 [i64 a,i64 lo,i64 hi] h (RetP fun v h'=>v=.bool (decide (a<lo\/hi<a))/\h'=h):=by
 refine ZAF Tryz.func140 rfl (by rw[Tryz.ntmps140];rfl) ?_;show Wc Tryz.prog ⟨140,15,none⟩ _ _ _ _ _;refine zz ?_;refine ZBQ rfl rfl rfl rfl (ZAf rfl rfl) (fun h1=>?_) (fun h1=>?_)
 ·refine zz ?_
  exact ZAB (ZAC rfl ⟨by rw[decide_eq_true (.inl h1)];rfl,rfl⟩)
 ·refine zz ?_
  refine ZBQ rfl rfl rfl rfl (ZCl rfl rfl) (fun h2=>?_) (fun h2=>?_)
  ·refine zz ?_
   exact ZAB (ZAC rfl ⟨by rw[decide_eq_true (.inr h2)];rfl,rfl⟩)
  ·refine zz ?_
   exact ZAB (ZAC rfl ⟨by rw[decide_eq_false (not_or.2 ⟨h1,h2⟩)];rfl,rfl⟩)
theorem ZI5 (a lo hi:Int)(h:Heap):Sv Tryz.prog 123 [i64 a,i64 lo,i64 hi] h (RetP fun v h'=>v=.bool (decide (a<lo\/hi<a))/\h'=h):=by
 refine ZAF Tryz.func123 rfl (by rw[Tryz.ntmps123];rfl) ?_;show Wc Tryz.prog ⟨123,15,none⟩ _ _ _ _ _;refine zz ?_;refine ZBQ rfl rfl rfl rfl (ZAf rfl rfl) (fun h1=>?_) (fun h1=>?_)
 ·refine zz ?_
  exact ZAB (ZAC rfl ⟨by rw[decide_eq_true (.inl h1)];rfl,rfl⟩)
 ·refine zz ?_
  refine ZBQ rfl rfl rfl rfl (ZCl rfl rfl) (fun h2=>?_) (fun h2=>?_)
  ·refine zz ?_
   exact ZAB (ZAC rfl ⟨by rw[decide_eq_true (.inr h2)];rfl,rfl⟩)
  ·refine zz ?_
   exact ZAB (ZAC rfl ⟨by rw[decide_eq_false (not_or.2 ⟨h1,h2⟩)];rfl,rfl⟩)
def ZCW {α:Type}(p:α->Bool)(l:List α):Int:=match l.findIdx? p with
 | some i=>i
 | none=>-1
theorem ZKA {a:Option Addr}{cap:Nat}{l:List Int}{h:Heap}{g:FuncId}{first capv:List Value}{p:Int->Bool}(hI:ZC9 h a l)(hbd:ZAa Tryz.prog g=true)
  (hp:∀h1,Ext h h1->∀x∈l,Sv Tryz.prog g (first++([i64 x]++capv)) h1 (RetP fun v h'=>v=.bool (p x)/\Ext h1 h')) (hlen:l.length<9223372036854775808) :
  Sv Tryz.prog 304 [.slice a l.length cap,.func (.func g) ⟨first⟩ ⟨capv⟩] h (RetP fun v h'=>v=i64 (ZCW p l)/\Ext h h'):=by
 refine ZAF Tryz.func304 rfl (by rw[Tryz.ntmps304];rfl) ?_;show Wc Tryz.prog ⟨304,19,none⟩ _ _ _ _ _;refine zz ?_
 refine ZAO (fun (k:Nat) m ds h'=>ds=[]/\Ext h h'/\k<=l.length/\(∀j (hj:j<l.length),j<k->p l[j]=false)/\AllK m [(0,.slice a l.length cap),(1,.func (.func g) ⟨first⟩ ⟨capv⟩),(7,i64 l.length),(8,i64 k)])
  (fun k=>l.length-k) 0 ?_ ?_
 ·exact⟨rfl,Ext.refl _,Nat.zero_le _,(fun _ _ hj=>by omega),rfl,rfl,rfl,rfl,trivial⟩
 rintro k m ds h' ⟨rfl,hE,hk,hno,hall⟩;refine Wc.le ?_ (Le.kn hall);refine zz ?_;refine ZBQ rfl rfl rfl rfl (ZAf rfl rfl) (fun h1=>?_) (fun h1=>?_)
 ·have hk':k<l.length:=by simpa using h1
  obtain⟨b,o,oa,rfl,hc⟩:=hI k hk';refine zz ?_;refine ZAj rfl rfl rfl rfl (A_ix Und.h Tsz.h rfl rfl) ?_;refine zz ?_;refine ZAh rfl rfl rfl rfl rfl hbd rfl rfl (hp h' hE _ (List.getElem_mem hk')) (fun hb h2 hE2=>?_) (fun hb h2 hE2=>?_)
  ·refine zz ?_
   refine ZAB (ZAC rfl ⟨?_,hE.trans hE2⟩);have:l.findIdx? p=some k:=by
    rw[List.findIdx?_eq_some_iff_getElem];exact⟨hk',hb,fun j hj=>by simp[hno j (by omega) hj]⟩
   simp[ZCW,this];rfl
  ·refine zz ?_
   refine⟨k+1,?_,rfl,hE.trans hE2,hk',?_,rfl,rfl,rfl,rfl,trivial⟩
   ·show l.length-(k+1)<l.length-k;omega
   ·intro j hj hlt
    rcases Nat.lt_or_ge j k with g|g
    ·exact hno j hj g
    ·have:j=k:=by omega
     subst this;exact hb
 ·have hk2:k=l.length:=by omega
  subst hk2;refine zz ?_;refine ZAB (ZAC rfl ⟨?_,hE⟩);have:l.findIdx? p=none:=by
   rw[List.findIdx?_eq_none_iff];intro x hx;obtain⟨j,hj,rfl⟩:=List.getElem_of_mem hx;exact hno j hj hj
  simp[ZCW,this];rfl
theorem ZBb {α:Type}(p:α->Bool)(l:List α):decide (0<=ZCW p l)=l.any p:=by
 unfold ZCW
 cases hq:l.findIdx? p with
 | none =>
  rw[List.findIdx?_eq_none_iff] at hq
  symm
  simp only[show ¬((0:Int) <= -1) by decide,decide_false];rw[List.any_eq_false];intro x hx;rw[hq x hx];simp
 | some i =>
  rw[List.findIdx?_eq_some_iff_getElem] at hq;obtain⟨h1,h2,_⟩:=hq;simp;exact⟨_,List.getElem_mem h1,h2⟩
theorem ZD7 {a:Option Addr}{cap:Nat}{l:List Int}{h:Heap}{g:FuncId}{first capv:List Value}{p:Int->Bool}(hI:ZC9 h a l)(hbd:ZAa Tryz.prog g=true)
  (hp:∀h1,Ext h h1->∀x∈l,Sv Tryz.prog g (first++([i64 x]++capv)) h1 (RetP fun v h'=>v=.bool (p x)/\Ext h1 h')) (hlen:l.length<9223372036854775808) :
  Sv Tryz.prog 266 [.slice a l.length cap,.func (.func g) ⟨first⟩ ⟨capv⟩] h (RetP fun v h'=>v=.bool (l.any p)/\Ext h h'):=by
 refine ZAF Tryz.func266 rfl (by rw[Tryz.ntmps266];rfl) ?_;show Wc Tryz.prog ⟨266,9,none⟩ _ _ _ _ _;refine zz ?_;refine ZA2 rfl rfl rfl rfl rfl Bod.h rfl rfl (ZKA hI hbd hp hlen) fun h1 hE1=>?_;refine zz ?_;refine ZBQ rfl rfl rfl rfl (ZDh rfl rfl) (fun hb=>?_) (fun hb=>?_)
 ·refine zz ?_
  exact ZAB (ZAC rfl ⟨by rw[<-ZBb,decide_eq_true hb];rfl,hE1⟩)
 ·refine zz ?_
  exact ZAB (ZAC rfl ⟨by rw[<-ZBb,decide_eq_false hb];rfl,hE1⟩)
def alN (n:Nat):Bool:=(decide (97<=n) && decide (n<=122)) || (decide (48<=n) && decide (n<=57))
def al (c:UInt8):Bool:=alN c.toNat
def tabC:List Value:=(List.range 256).map fun i=>.bool (alN i)
def ZFD:List UInt8:=[97,98,99,100,101,102,103,104,105,106,107,108,109,110,111,112,113,114,115,116,117,118,119,120,121,122,48,49,50,51,52,53,54,55,56,57]
def tabJ (l:List UInt8):List Value:=l.foldl (fun cs c=>cs.set c.toNat (Value.bool true)) (List.replicate 256 (Value.bool false))
theorem ZQK:∀(l:List UInt8)(cs:List Value),(l.foldl (fun cs c=>cs.set c.toNat (Value.bool true)) cs).length=cs.length
 | [],_=>rfl
 | c::l,cs=>by rw[List.foldl_cons,ZQK l,List.length_set]
theorem ZTY (l:List UInt8):(tabJ l).length=256:=by
 unfold tabJ;rw[ZQK];exact List.length_replicate
theorem ZQD (l:List UInt8)(c:UInt8):tabJ (l++[c])=(tabJ l).set c.toNat (.bool true):=by
 unfold tabJ;rw[List.foldl_append];rfl
theorem ZTG:tabJ ZFD=tabC:=by kernel_rfl
theorem ZS5:∀c∈ZFD,c.toNat<128:=by decide
set_option maxHeartbeats 1000000 in
theorem ZVv (h:Heap):Sv Tryz.prog 176 [str ZFD] h (RetP fun v h'=>v=.tuple ⟨[.agg ⟨tabC⟩,.bool true]⟩/\Ext h h'):=by
 refine ZA5 fun hw=>?_;have hal:ZFD.length=36:=rfl;refine ZAF Tryz.func176 rfl (by rw[Tryz.ntmps176];rfl) ?_;show Wc Tryz.prog ⟨176,21,none⟩ _ _ _ _ _;refine zz ?_;refine ZBV rfl rfl Zr.h fun h1 hE1 hW1 hg1 hn1=>?_;have hb0:h.nx<=h.nx:=Nat.le_refl _;obtain⟨b,hb⟩:∃b,b=h.nx:=⟨_,rfl⟩;rw[<-hb] at hg1 ⊢;have hg0:h1.get b=some (.cells (tabJ []) 262 false):=by rw[hg1];kernel_rfl
 clear hg1;refine zz ?_;refine ZAO (fun (j:Nat) m ds h'=>ds=[]/\Ext h h'/\j<=36/\h'.get b=some (.cells (tabJ (ZFD.take j)) 262 false)/\AllK m [(0,str ZFD),(2,.pointer (some ⟨b,0,none⟩)),(4,i64 (j:Nat))]) (fun j=>36-j) 0 ?_ ?_
 ·exact⟨rfl,hE1,Nat.zero_le _,hg0,rfl,rfl,rfl,trivial⟩
 clear hg0 hE1 hW1;rintro j m ds h2 ⟨rfl,hE2,hj,hg2,hall⟩;refine Wc.le ?_ (Le.kn hall);clear hall;refine zz ?_;refine ZBQ rfl rfl rfl rfl (ZAf rfl rfl) (fun hjl=>?_) (fun hjl=>?_);rotate_left
 ·have:j=36:=by rw[hal] at hjl;omega
  subst this;rw[show ZFD.take 36=ZFD from rfl,ZTG] at hg2;refine zz ?_;refine ZAq (r:=tabC) rfl Tsz.h rfl rfl hg2 (by kernel_rfl) (by kernel_rfl) (by kernel_rfl) fun h3 hU=>?_;have hE3:=hU.ext hE2 hw (by omega);have hg3:=hU.at';refine zz ?_;exact ZAB (ZAC (vs:=[.agg ⟨tabC⟩,.bool true]) (ZFu rfl (ZF2 RowC.h (ZAV hg3 (by kernel_rfl))) (ZTC rfl rfl)) ⟨rfl,hE3⟩)
 have hj':j<ZFD.length:=by omega
 have htk:tabJ (ZFD.take (j+1))=(tabJ (ZFD.take j)).set ZFD[j].toNat (.bool true):=by
  rw[List.take_add_one,List.getElem?_eq_getElem hj',Option.toList_some,ZQD]
 have hc:=ZS5 _ (List.getElem_mem hj');have hl:=ZTY (ZFD.take j);refine zz ?_;refine ZAj rfl rfl rfl rfl (ZBD (k:=j) Und.h rfl rfl (by omega) (by omega)) ?_;generalize ZFD[j]=c at *;refine zz ?_;refine ZAj rfl rfl rfl rfl (A_ff (by omega) (ZDh rfl rfl)) ?_;refine zz ?_;refine ZAj rfl rfl rfl rfl (ZIk (k:=c.toNat) Und.h Tsz.h rfl rfl rfl (by omega)) ?_;refine ZAq rfl Tsz.h rfl rfl hg2 rfl rfl (ZCx (by omega)) fun h3 hU=>?_;have hE3:=hU.ext hE2 hw (by omega);have hg3:=hU.at';refine zz ?_;refine⟨j+1,(by show 36-(j+1)<36-j;omega),rfl,hE3,by omega,?_,rfl,rfl,rfl,trivial⟩;rw[hg3,htk];simp
theorem ZSY (c:UInt8):nth tabC c.toNat=some (.bool (al c)):=by
 have:=c.toNat_lt;rw[ZAw];simp[tabC,al,this]
theorem ZHn (b:Nat)(c:UInt8)(h:Heap)(t:TypeId)(op:Bool)(hg:h.get b=some (.cells tabC t op)):Sv Tryz.prog 250 [.pointer (some ⟨b,0,none⟩),byt c] h (RetP fun v h'=>v=.bool (al c)/\h'=h):=by
 refine ZAF Tryz.func250 rfl (by rw[Tryz.ntmps250];rfl) ?_;show Wc Tryz.prog ⟨250,10,none⟩ _ _ _ _ _;have hlt:=c.toNat_lt;have hc:ZAZ h b (0+c.toNat*1)=some (.bool (al c)):=ZAl hg (by rw[Nat.zero_add,Nat.mul_one];exact ZSY c);refine zz ?_;refine ZAj rfl rfl rfl rfl (ZDN rfl) ?_;refine ZAj rfl rfl rfl rfl (ZIk (k:=c.toNat) Und.h Tsz.h rfl rfl rfl hlt) ?_;refine zz ?_;exact ZAB (ZAC rfl ⟨rfl,rfl⟩)
def ZGV (l:List UInt8):List UInt8:=(l.reverse.dropWhile al).reverse
def ZKB (l:List UInt8):List UInt8:=l.dropWhile al
theorem ZIe (l:List UInt8)(c:UInt8):ZGV (l++[c])=if al c then ZGV l else l++[c]:=by
 unfold ZGV;simp only[List.reverse_append,List.reverse_cons,List.reverse_nil,List.nil_append,List.singleton_append,List.dropWhile_cons]
 split <;> simp
theorem ZN1 (l:List UInt8):ZKB (ZGV l)=[] ↔ l.all al=true:=by
 have hdw:∀(r:List UInt8),r.dropWhile al=[] ↔ ∀x∈r,al x=true:=by
  intro r
  induction r with
  | nil=>simp
  | cons x r ih =>
   rw[List.dropWhile_cons];cases hx:al x
   ·simp[hx]
   ·simp[hx,ih]
 unfold ZKB ZGV;rw[hdw]
 constructor
 ·intro h
  rw[List.all_eq_true];intro x hx;have h1:l.reverse=l.reverse.takeWhile al++l.reverse.dropWhile al:=(List.takeWhile_append_dropWhile).symm;have hx':x∈l.reverse:=List.mem_reverse.2 hx;rw[h1] at hx'
  rcases List.mem_append.1 hx' with g|g
  ·exact List.all_eq_true.1 (List.all_takeWhile (p:=al)) x g
  ·exact h x (List.mem_reverse.2 g)
 ·intro h x hx
  have:x∈l.reverse:=List.dropWhile_sublist _ |>.mem (List.mem_reverse.1 hx);exact List.all_eq_true.1 h x (List.mem_reverse.1 this)
theorem ZK8 (b:Nat)(l:List UInt8)(h:Heap)(t:TypeId)(op:Bool)(hg:h.get b=some (.cells tabC t op))(hlen:l.length<9223372036854775808):Sv Tryz.prog 178 [str l,.pointer (some ⟨b,0,none⟩)] h (RetP fun v h'=>v=str (ZGV l)/\h'=h):=by
 refine ZAF Tryz.func178 rfl (by rw[Tryz.ntmps178];rfl) ?_;show Wc Tryz.prog ⟨178,22,none⟩ _ _ _ _ _;refine zz ?_;refine ZAO (fun (s:List UInt8) m ds h'=>ds=[]/\h'=h/\s.length<=l.length/\ZGV s=ZGV l/\AllK m [(0,str s),(1,.pointer (some ⟨b,0,none⟩))]) (fun s=>s.length) l ?_ ?_
 ·exact⟨rfl,rfl,Nat.le_refl _,rfl,rfl,rfl,trivial⟩
 rintro s m ds h' ⟨rfl,rfl,hle,htr,hall⟩;refine Wc.le ?_ (Le.kn hall);refine zz ?_;refine ZBQ rfl rfl rfl rfl (ZCl rfl rfl) (fun h1=>?_) (fun h1=>?_)
 ·have hpos:0<s.length:=by simpa using h1
  have hs:s=s.take (s.length-1)++[s[s.length-1]]:=by
   conv=>lhs;rw[<-List.dropLast_concat_getLast (List.ne_nil_of_length_pos hpos)]
   rw[List.dropLast_eq_take,List.getLast_eq_getElem]
  refine zz ?_;refine ZAj rfl rfl rfl rfl (ZBD (k:=s.length-1) Und.h rfl rfl (by omega) (by omega)) ?_;refine ZAk rfl rfl rfl rfl rfl Bod.h rfl rfl (ZHn b _ _ t op hg) (fun hb=>?_) (fun hb=>?_)
  ·refine zz ?_
   refine ZAj rfl rfl rfl rfl (ZFj (k:=s.length-1) Und.h rfl rfl (by omega) (by omega)) ?_;refine zz ?_;refine⟨s.take (s.length-1),?_,rfl,rfl,?_,?_,rfl,rfl,trivial⟩
   ·simp;omega
   ·simp;omega
   ·rw[<-htr]
    conv=>rhs;rw[hs]
    rw[ZIe,if_pos hb]
  ·refine zz ?_
   refine ZAB (ZAC rfl ⟨?_,rfl⟩);have:ZGV s=s:=by
    conv=>lhs;rw[hs]
    rw[ZIe,hb,if_neg (by simp)];exact hs.symm
   rw[<-htr,this];rfl
 ·have h0:s=[]:=by
   cases s with
   | nil=>rfl
   | cons x s=>exfalso;apply h1;simp
  subst h0;refine zz ?_;refine ZAB (ZAC rfl ⟨?_,rfl⟩);rw[<-htr];rfl
theorem ZMy (b:Nat)(l:List UInt8)(h:Heap)(t:TypeId)(op:Bool)(hg:h.get b=some (.cells tabC t op))(hlen:l.length<9223372036854775808):Sv Tryz.prog 177 [str l,.pointer (some ⟨b,0,none⟩)] h (RetP fun v h'=>v=str (ZKB l)/\h'=h):=by
 refine ZAF Tryz.func177 rfl (by rw[Tryz.ntmps177];rfl) ?_;show Wc Tryz.prog ⟨177,16,none⟩ _ _ _ _ _;refine zz ?_;refine ZAO (fun (s:List UInt8) m ds h'=>ds=[]/\h'=h/\s.length<=l.length/\ZKB s=ZKB l/\AllK m [(0,str s),(1,.pointer (some ⟨b,0,none⟩))]) (fun s=>s.length) l ?_ ?_
 ·exact⟨rfl,rfl,Nat.le_refl _,rfl,rfl,rfl,trivial⟩
 rintro s m ds h' ⟨rfl,rfl,hle,htr,hall⟩;refine Wc.le ?_ (Le.kn hall);refine zz ?_;refine ZBQ rfl rfl rfl rfl (ZCl rfl rfl) (fun h1=>?_) (fun h1=>?_)
 ·have hpos:0<s.length:=by simpa using h1
  obtain⟨c,r,rfl⟩:∃c r,s=c::r:=by
   cases s with
   | nil=>simp at hpos
   | cons c r=>exact⟨c,r,rfl⟩
  refine zz ?_;refine ZAj rfl rfl rfl rfl (ZBD (k:=0) Und.h rfl rfl rfl hpos) ?_;refine ZAk rfl rfl rfl rfl rfl Bod.h rfl rfl (ZHn b _ _ t op hg) (fun hb=>?_) (fun hb=>?_)
  ·refine zz ?_
   refine ZAj rfl rfl rfl rfl (ZF8 (k:=1) Und.h rfl rfl rfl (by simp)) ?_;refine zz ?_;refine⟨r,?_,rfl,rfl,?_,?_,rfl,rfl,trivial⟩
   ·simp
   ·simp at hle;omega
   ·rw[<-htr]
    have hb':al c=true:=hb;simp[ZKB,List.dropWhile_cons,hb']
  ·refine zz ?_
   refine ZAB (ZAC rfl ⟨?_,rfl⟩);have hb':al c=false:=hb;have:ZKB (c::r)=c::r:=by simp[ZKB,List.dropWhile_cons,hb']
   rw[<-htr,this];rfl
 ·have h0:s=[]:=by
   cases s with
   | nil=>rfl
   | cons x s=>exfalso;apply h1;simp
  subst h0;refine zz ?_;refine ZAB (ZAC rfl ⟨?_,rfl⟩);rw[<-htr];rfl
theorem ZUR (l:List UInt8)(h:Heap)(hne:l≠[])(hlen:l.length<9223372036854775808):Sv Tryz.prog 127 [str l,str ZFD] h (RetP fun v h'=>v=str (ZKB (ZGV l))/\Ext h h'):=by
 refine ZA5 fun hw=>?_;refine ZAF Tryz.func127 rfl (by rw[Tryz.ntmps127];rfl) ?_;show Wc Tryz.prog ⟨127,43,none⟩ _ _ _ _ _;refine zz ?_;refine ZBQ rfl rfl rfl rfl (ZAU rfl rfl) (fun h1=>?_) (fun h1=>?_)
 ·exact absurd h1 hne
 refine zz ?_;refine ZBQ rfl rfl rfl rfl (ZAU rfl rfl) (fun h2=>?_) (fun h2=>?_)
 ·exact absurd h2 (by decide)
 refine zz ?_;refine ZBQ rfl rfl rfl rfl (ZAs rfl rfl) (fun h3=>?_) (fun h3=>?_)
 ·exact absurd h3 (by decide)
 refine zz ?_;refine ZA2 rfl rfl rfl rfl rfl Bod.h rfl rfl (ZVv h) fun h1 hE1=>?_;refine zz ?_;refine ZBV rfl rfl Zr.h fun h2 hE2 hW2 hg2 hn2=>?_;refine ZAq (r:=tabC) rfl Tsz.h rfl rfl hg2 (by kernel_rfl) (by kernel_rfl) (by kernel_rfl) fun h3 hU3=>?_;have hE3:Ext h h3:=hU3.ext (hE1.trans hE2) hw hE1.2.1;refine zz ?_;refine ZA2 rfl rfl rfl rfl rfl Bod.h rfl rfl (ZK8 _ l h3 262 false hU3.at' hlen).grows fun h4 hE4=>?_;have hl4:(ZGV l).length<=l.length:=by
  unfold ZGV;have:=(List.dropWhile_sublist al (l:=l.reverse)).length_le;simp at this ⊢;exact this
 refine ZA2 rfl rfl rfl rfl rfl Bod.h rfl rfl (ZMy _ (ZGV l) h4 262 false (hE4.get hU3.at') (by omega)).grows fun h5 hE5=>?_;refine zz ?_;exact ZAB (ZAC rfl ⟨rfl,(hE3.trans hE4).trans hE5⟩)
theorem ZSK (l:List UInt8)(h:Heap)(hlen:l.length<9223372036854775808):Sv Tryz.prog 126 [str l] h (RetP fun v h'=>v=.bool (decide (l=[]) || !l.all al)/\Ext h h'):=by
 refine ZAF Tryz.func126 rfl (by rw[Tryz.ntmps126];rfl) ?_;show Wc Tryz.prog ⟨126,10,none⟩ _ _ _ _ _;refine zz ?_;refine ZBQ rfl rfl rfl rfl (ZAU rfl rfl) (fun h1=>?_) (fun h1=>?_)
 ·refine zz ?_
  exact ZAB (ZAC rfl ⟨by rw[decide_eq_true h1];rfl,Ext.refl _⟩)
 ·refine zz ?_
  refine ZA2 rfl rfl rfl rfl rfl Bod.h rfl rfl (ZUR l h h1 hlen) fun h2 hE2=>?_;refine ZBQ rfl rfl rfl rfl (ZBF rfl rfl) (fun h3=>?_) (fun h3=>?_)
  ·refine zz ?_
   refine ZAB (ZAC rfl ⟨?_,hE2⟩);have:l.all al=false:=by
    cases hq:l.all al with
    | false=>rfl
    | true=>exact absurd ((ZN1 l).2 hq) h3
   rw[this];simp;rfl
  ·refine zz ?_
   refine ZAB (ZAC rfl ⟨?_,hE2⟩);have:l.all al=true:=(ZN1 l).1 (Classical.not_not.1 h3);rw[this,decide_eq_false h1];rfl
def dash:UInt8:=45
def ZAn:List UInt8->List (List UInt8)
 | []=>[[]]
 | x::l=>if x=dash then []::ZAn l else match ZAn l with
  | []=>[[x]]
  | p::ps=>(x::p)::ps
theorem ZHS (l:List UInt8):ZAn l≠[]:=by
 cases l with
 | nil=>simp[ZAn]
 | cons x l =>
  unfold ZAn
  split
  ·simp
  ·split <;> simp
theorem ZIh (l:List UInt8):(ZAn l).length=l.count dash+1:=by
 induction l with
 | nil=>rfl
 | cons x l ih =>
  unfold ZAn
  by_cases hx:x=dash
  ·simp[hx,ih]
  ·rw[if_neg hx,List.count_cons_of_ne hx]
   split
   ·rename_i hq;exact absurd hq (ZHS l)
   ·rename_i p ps hq;rw[hq] at ih;simpa using ih
theorem ZO9 {p:List UInt8}(hp:dash ∉ p)(l:List UInt8):ZAn (p++dash::l)=p::ZAn l:=by
 induction p with
 | nil=>simp[ZAn]
 | cons x p ih =>
  simp only[List.mem_cons,not_or] at hp;rw[List.cons_append,ZAn,if_neg (fun e=>hp.1 e.symm),ih hp.2]
theorem ZMv {l:List UInt8}(h:dash ∉ l):ZAn l=[l]:=by
 induction l with
 | nil=>rfl
 | cons x l ih =>
  simp only[List.mem_cons,not_or] at h;rw[ZAn,if_neg (fun e=>h.1 e.symm),ih h.2]
theorem ZIC (l:List UInt8):(Lib.indexByte l dash = -1/\dash ∉ l)\/∃k:Nat,Lib.indexByte l dash=k/\k<l.length/\l=l.take k++dash::l.drop (k+1)/\dash ∉ l.take k:=by
 induction l with
 | nil=>exact .inl ⟨rfl,by simp⟩
 | cons x l ih =>
  unfold Lib.indexByte
  by_cases hx:x=dash
  ·refine .inr ⟨0,by simp[hx],by simp,by simp[hx],by simp⟩
  ·have hb:(x == dash)=false:=by simpa using hx
   rcases ih with ⟨h1,h2⟩|⟨k,h1,h2,h3,h4⟩
   ·exact .inl ⟨by simp[hb,h1],by simp[h2,Ne.symm hx]⟩
   ·refine .inr ⟨k+1,?_,by simpa using h2,?_,?_⟩
    ·rw[h1]
     have:((k:Int) == -1)=false:=by simp
     simp[hb,this]
    ·simp only[List.take_succ_cons,List.drop_succ_cons,List.cons_append]
     rw[<-h3]
    ·simp[h4,Ne.symm hx]
theorem ZGc {m:Mem}{h:Heap}{d:Option Tmp}{ty:TypeId}{pos:String}{af:Array Edge}{gu:Option (Nat×Bool)}{x y:Operand}{ts:Array TypeId}{l:List UInt8}{c:UInt8}(hx:opk h m x=some (str l))(hy:opk h m y=some (byt c)) :
  Aop Tryz.prog ⟨d,.call ⟨.value (.func 342),#[x,y],ts⟩,ty,pos,af,gu⟩ m h (i64 (Lib.indexByte l c)) h :=
 ZT5 Tryz.func342 (by kernel_rfl) (by kernel_rfl) (by kernel_rfl) (by kernel_rfl) hx hy rfl rfl rfl fun w=>by
  rw[Lib.run_indexByteString];simp
theorem ZJ7 {m:Mem}{h:Heap}{d:Option Tmp}{ty:TypeId}{pos:String}{af:Array Edge}{gu:Option (Nat×Bool)}{x y:Operand}{ts:Array TypeId}{l:List UInt8}{c:UInt8}(hx:opk h m x=some (str l))(hy:opk h m y=some (byt c)) :
  Aop Tryz.prog ⟨d,.call ⟨.value (.func 295),#[x,y],ts⟩,ty,pos,af,gu⟩ m h (i64 (l.count c:Nat)) h :=
 ZT5 Tryz.func295 (by kernel_rfl) (by kernel_rfl) (by kernel_rfl) (by kernel_rfl) hx hy rfl rfl rfl fun w=>by
  rw[Lib.run_countString];simp[Lib.countByte]
theorem ZRa (l:List UInt8)(c:UInt8)(h:Heap):Sv Tryz.prog 325 [str l,byt c] h (RetP fun v h'=>v=i64 (Lib.indexByte l c)/\h'=h):=by
 refine ZAF Tryz.func325 rfl (by rw[Tryz.ntmps325];rfl) ?_;show Wc Tryz.prog ⟨325,8,none⟩ _ _ _ _ _;refine zz ?_;refine ZNl (ZTi rfl (fun _ hq=>nomatch hq) (ZGc rfl rfl) ?_) rfl;refine zz ?_;exact ZAB (ZAC rfl ⟨rfl,rfl⟩)
theorem ZSJ (l:List UInt8)(h:Heap):Sv Tryz.prog 249 [str l,str [45]] h (RetP fun v h'=>v=i64 (Lib.indexByte l dash)/\h'=h):=by
 have key:Sv Tryz.prog 296 [str l,str [45]] h (RetP fun v h'=>v=i64 (Lib.indexByte l dash)/\h'=h):=by
  refine ZAF Tryz.func296 rfl (by rw[Tryz.ntmps296];rfl) ?_;show Wc Tryz.prog ⟨296,143,none⟩ _ _ _ _ _;refine zz ?_;refine ZBQ rfl rfl rfl rfl (ZAs rfl rfl) (fun h1=>?_) (fun h1=>?_)
  ·exact absurd h1 (by decide)
  refine zz ?_;refine ZBQ rfl rfl rfl rfl (ZAU rfl rfl) (fun h2=>?_) (fun h2=>?_)
  ·refine zz ?_
   subst h2;exact ZAB (ZAC rfl ⟨rfl,rfl⟩)
  refine zz ?_;refine ZBQ rfl rfl rfl rfl (ZAs rfl rfl) (fun h3=>?_) (fun h3=>?_)
  ·refine zz ?_
   refine ZAj rfl rfl rfl rfl (ZBD (k:=0) Und.h rfl rfl rfl (by decide)) ?_;refine ZBX rfl rfl rfl rfl rfl Bod.h rfl rfl (ZRa l dash h) ?_;refine zz ?_;exact ZAB (ZAC rfl ⟨rfl,rfl⟩)
  ·exact absurd rfl h3
 refine ZAF Tryz.func249 rfl (by rw[Tryz.ntmps249];rfl) ?_;show Wc Tryz.prog ⟨249,8,none⟩ _ _ _ _ _;refine zz ?_;refine ZBX rfl rfl rfl rfl rfl Bod.h rfl rfl key ?_;refine zz ?_;exact ZAB (ZAC rfl ⟨rfl,rfl⟩)
theorem ZSp (l:List UInt8)(h:Heap):Sv Tryz.prog 248 [str l,str [45]] h (RetP fun v h'=>v=i64 (l.count dash:Nat)/\h'=h):=by
 refine ZAF Tryz.func248 rfl (by rw[Tryz.ntmps248];rfl) ?_;show Wc Tryz.prog ⟨248,34,none⟩ _ _ _ _ _;refine zz ?_;refine ZBQ rfl rfl rfl rfl (ZAs rfl rfl) (fun h1=>?_) (fun h1=>?_)
 ·exact absurd h1 (by decide)
 refine zz ?_;refine ZBQ rfl rfl rfl rfl (ZAs rfl rfl) (fun h2=>?_) (fun h2=>?_)
 ·refine zz ?_
  refine ZAj rfl rfl rfl rfl (ZBD (k:=0) Und.h rfl rfl rfl (by decide)) ?_;refine ZNl (ZTi rfl (fun _ hq=>nomatch hq) (ZJ7 (c:=dash) rfl rfl) ?_) rfl;refine zz ?_;exact ZAB (ZAC rfl ⟨rfl,rfl⟩)
 ·exact absurd rfl h2
theorem ZUS (n:Nat)(z:Value):rep n [z]=List.replicate n z:=by
 induction n with
 | zero=>rfl
 | succ n ih=>rw[List.replicate_succ,<-ih];rfl
theorem ZME (l:List UInt8)(h:Heap)(hlen:l.length<1000000) :
  Sv Tryz.prog 173 [str l,str [45],i64 0,i64 (-1)] h (RetP fun v h'=>∃a cap,v=.slice a (ZAn l).length cap/\ZIr h' a (ZAn l)/\Ext h h'):=by
 have hcl:l.count dash<=l.length:=List.count_le_length;refine ZA5 fun hw=>?_;refine ZAF Tryz.func173 rfl (by rw[Tryz.ntmps173];rfl) ?_;show Wc Tryz.prog ⟨173,66,none⟩ _ _ _ _ _;refine zz ?_;refine ZBQ rfl rfl rfl rfl (ZAs rfl rfl) (fun h1=>?_) (fun h1=>?_)
 ·exact absurd h1 (by decide)
 refine zz ?_;refine ZBQ rfl rfl rfl rfl (ZAU rfl rfl) (fun h2=>?_) (fun h2=>?_)
 ·exact absurd h2 (by decide)
 refine zz ?_;refine ZBQ rfl rfl rfl rfl (ZAf rfl rfl) (fun h3=>?_) (fun h3=>?_)
 ·refine zz ?_
  refine ZBX rfl rfl rfl rfl rfl Bod.h rfl rfl (ZSp l h) ?_;refine zz ?_;refine ZAj rfl rfl rfl rfl (ZWH rfl rfl) ?_;have hmin:min ((l.count dash:Int)+1) ((l.length:Int)+1)=(l.count dash:Int)+1:=by omega
  rw[hmin];refine zz ?_;refine ZAj rfl rfl rfl rfl (ZMP (k:=l.count dash+1) Und.h (inferInstance:Elm _ _ _ _) Zr.h rfl rfl (by simp) (by omega) (by omega)) ?_;generalize hh1:h.add _=h1;have hg1:h1.get h.nx=some (.cells (List.replicate (l.count dash+1) (str [])) 9 false):=by
   rw[<-hh1,<-ZUS];exact Heap.get_add_same
  have hE1:Ext h h1:=by rw[<-hh1];exact Ext.add hw _
  clear hh1;generalize hb:h.nx=b at *;refine zz ?_
  refine ZAO (fun (st:List (List UInt8)×List UInt8) m ds h2=>ds=[]/\Ext h h2/\st.1.length+st.2.count dash=l.count dash/\ZAn l=st.1++ZAn st.2/\st.2.length<=l.length ∧
    h2.get b=some (.cells (st.1.map str++List.replicate (l.count dash+1-st.1.length) (str [])) 9 false) ∧
    AllK m [(0,str st.2),(1,str [45]),(2,i64 0),(3,i64 (l.count dash:Nat)),(9,.slice (some ⟨b,0,none⟩) (l.count dash+1) (l.count dash+1)),(10,i64 st.1.length)])
   (fun st=>st.2.length) ([],l) ?_ ?_
  ·refine⟨rfl,hE1,by simp,rfl,Nat.le_refl _,by simpa using hg1,rfl,rfl,rfl,?_,rfl,rfl,trivial⟩
   show some (Value.int .i64 ((l.count dash:Int)+1-1))=_
   simp
  rintro⟨dn,s⟩ m ds h2 ⟨rfl,hE2,hcnt,hsp,hsl,hg2,hall⟩;simp only at hcnt hsp hsl hg2 hall;have key:∀m',AllK m' [(9,.slice (some ⟨b,0,none⟩) (l.count dash+1) (l.count dash+1)),(10,i64 dn.length),(0,str s)]->dash ∉ s->True:=fun _ _ _=>trivial;refine Wc.le ?_ (Le.kn hall);refine zz ?_;refine ZBQ rfl rfl rfl rfl (ZAf rfl rfl) (fun h4=>?_) (fun h4=>?_)
  ·have hdn:dn.length<l.count dash:=by simpa using h4
   refine zz ?_;refine ZBX rfl rfl rfl rfl rfl Bod.h rfl rfl (ZSJ s h2) ?_
   rcases ZIC s with ⟨g1,g2⟩|⟨k,g1,g2,g3,g4⟩
   ·exfalso
    have:=List.count_eq_zero.2 g2;omega
   rw[g1];refine zz ?_;refine ZBQ rfl rfl rfl rfl (ZAf rfl rfl) (fun h5=>?_) (fun h5=>?_)
   ·exact absurd h5 (by omega)
   refine zz ?_;refine ZAj rfl rfl rfl rfl (ZFj (k:=k) Und.h rfl rfl (by omega) (by omega)) ?_;refine ZAj rfl rfl rfl rfl (ZAL (k:=dn.length) Und.h Tsz.h rfl rfl rfl (by omega)) ?_;refine ZAq (r:=(dn++[s.take k]).map str++List.replicate (l.count dash+1-(dn.length+1)) (str [])) rfl Tsz.h rfl rfl hg2 rfl rfl ?_ fun h3 hU3=>?_
   ·show lay _ (0+dn.length*1) [str (s.take k)]=_
    rw[ZCx (by simp;omega)]
    congr 1
    have:l.count dash+1-dn.length=(l.count dash+1-(dn.length+1))+1:=by omega
    rw[this,List.replicate_succ,Nat.zero_add,Nat.mul_one,List.set_append_right _ _ (by simp)];simp
   refine zz ?_;refine ZAj rfl rfl rfl rfl (ZVT rfl rfl (by simp;omega) (by simp;omega)) ?_;refine ZAj rfl rfl rfl rfl (ZF8 (k:=k+1) Und.h rfl rfl (by simp) (by omega)) ?_;refine zz ?_;have hs':ZAn s=s.take k::ZAn (s.drop (k+1)):=by
    conv=>lhs;rw[g3]
    exact ZO9 g4 _
   refine⟨(dn++[s.take k],s.drop (k+1)),?_,rfl,?_,?_,?_,?_,?_,rfl,rfl,rfl,rfl,rfl,?_,trivial⟩
   ·simp;omega
   ·exact hU3.ext hE2 hw (by omega)
   ·have hc:s.count dash=1+(s.drop (k+1)).count dash:=by
     conv=>lhs;rw[g3]
     rw[List.count_append,List.count_eq_zero.2 g4,List.count_cons_self];omega
    simp only[List.length_append,List.length_singleton];omega
   ·simp only[List.append_assoc,List.singleton_append];rw[hsp,hs']
   ·simp;omega
   ·rw[hU3.at'];simp
   ·show some (Value.int .i64 ((dn.length:Int)+1))=_
    simp
  ·have hdn:dn.length=l.count dash:=by omega
   have hc0:s.count dash=0:=by omega
   have hs':ZAn s=[s]:=ZMv (List.count_eq_zero.1 hc0);rw[hs'] at hsp;refine zz ?_;refine ZAj rfl rfl rfl rfl (ZAL (k:=dn.length) Und.h Tsz.h rfl rfl rfl (by omega)) ?_;refine ZAq (r:=(ZAn l).map str) rfl Tsz.h rfl rfl hg2 rfl rfl ?_ fun h3 hU3=>?_
   ·show lay _ (0+dn.length*1) [str s]=_
    rw[ZCx (by simp;omega)]
    congr 1
    have:l.count dash+1-dn.length=1:=by omega
    rw[this,Nat.zero_add,Nat.mul_one,List.set_append_right _ _ (by simp),hsp];simp
   refine zz ?_;have hsl':=ZIh l;refine ZAj rfl rfl rfl rfl (ZKv (k:=(ZAn l).length) Und.h Tsz.h rfl rfl (by rw[hsl'];omega) (by omega)) ?_;refine zz ?_;refine ZAB (ZAC rfl ⟨_,_,rfl,fun i hi=>⟨b,0,none,rfl,?_⟩,hU3.ext hE2 hw (by omega)⟩);refine ZAl hU3.at' ?_;rw[ZAw];simp[hi]
 ·exact absurd (by decide) h3
theorem ZSA (l:List UInt8)(h:Heap)(hlen:l.length<1000000) :
  Sv Tryz.prog 125 [str l,str [45]] h (RetP fun v h'=>∃a cap,v=.slice a (ZAn l).length cap/\ZIr h' a (ZAn l)/\Ext h h'):=by
 refine ZAF Tryz.func125 rfl (by rw[Tryz.ntmps125];rfl) ?_;show Wc Tryz.prog ⟨125,8,none⟩ _ _ _ _ _;refine zz ?_;refine ZA0 rfl rfl rfl rfl rfl Bod.h rfl rfl (ZME l h hlen) ?_;rintro _ h1 ⟨a,cap,rfl,h2,h3⟩;refine zz ?_;exact ZAB (ZAC rfl ⟨a,cap,rfl,h2,h3⟩)
theorem ZJ4 {a:Option Addr}{cap:Nat}{l:List (List UInt8)}{h:Heap}{g:FuncId}{first capv:List Value}{p:List UInt8->Bool}(hI:ZIr h a l)(hbd:ZAa Tryz.prog g=true)
  (hp:∀h1,Ext h h1->∀x∈l,Sv Tryz.prog g (first++([str x]++capv)) h1 (RetP fun v h'=>v=.bool (p x)/\Ext h1 h')) (hlen:l.length<9223372036854775808) :
  Sv Tryz.prog 172 [.slice a l.length cap,.func (.func g) ⟨first⟩ ⟨capv⟩] h (RetP fun v h'=>v=i64 (ZCW p l)/\Ext h h'):=by
 refine ZAF Tryz.func172 rfl (by rw[Tryz.ntmps172];rfl) ?_;show Wc Tryz.prog ⟨172,19,none⟩ _ _ _ _ _;refine zz ?_
 refine ZAO (fun (k:Nat) m ds h'=>ds=[]/\Ext h h'/\k<=l.length/\(∀j (hj:j<l.length),j<k->p l[j]=false)/\AllK m [(0,.slice a l.length cap),(1,.func (.func g) ⟨first⟩ ⟨capv⟩),(7,i64 l.length),(8,i64 k)])
  (fun k=>l.length-k) 0 ?_ ?_
 ·exact⟨rfl,Ext.refl _,Nat.zero_le _,(fun _ _ hj=>by omega),rfl,rfl,rfl,rfl,trivial⟩
 rintro k m ds h' ⟨rfl,hE,hk,hno,hall⟩;refine Wc.le ?_ (Le.kn hall);refine zz ?_;refine ZBQ rfl rfl rfl rfl (ZAf rfl rfl) (fun h1=>?_) (fun h1=>?_)
 ·have hk':k<l.length:=by simpa using h1
  obtain⟨b,o,oa,rfl,hc⟩:=hI k hk';refine zz ?_;refine ZAj rfl rfl rfl rfl (A_ix Und.h Tsz.h rfl rfl) ?_;refine zz ?_;refine ZAh rfl rfl rfl rfl rfl hbd rfl rfl (hp h' hE _ (List.getElem_mem hk')) (fun hb h2 hE2=>?_) (fun hb h2 hE2=>?_)
  ·refine zz ?_
   refine ZAB (ZAC rfl ⟨?_,hE.trans hE2⟩);have:l.findIdx? p=some k:=by
    rw[List.findIdx?_eq_some_iff_getElem];exact⟨hk',hb,fun j hj=>by simp[hno j (by omega) hj]⟩
   simp[ZCW,this];rfl
  ·refine zz ?_
   refine⟨k+1,?_,rfl,hE.trans hE2,hk',?_,rfl,rfl,rfl,rfl,trivial⟩
   ·show l.length-(k+1)<l.length-k;omega
   ·intro j hj hlt
    rcases Nat.lt_or_ge j k with g|g
    ·exact hno j hj g
    ·have:j=k:=by omega
     subst this;exact hb
 ·have hk2:k=l.length:=by omega
  subst hk2;refine zz ?_;refine ZAB (ZAC rfl ⟨?_,hE⟩);have:l.findIdx? p=none:=by
   rw[List.findIdx?_eq_none_iff];intro x hx;obtain⟨j,hj,rfl⟩:=List.getElem_of_mem hx;exact hno j hj hj
  simp[ZCW,this];rfl
theorem ZG5 {a:Option Addr}{cap:Nat}{l:List (List UInt8)}{h:Heap}{g:FuncId}{first capv:List Value}{p:List UInt8->Bool}(hI:ZIr h a l)(hbd:ZAa Tryz.prog g=true)
  (hp:∀h1,Ext h h1->∀x∈l,Sv Tryz.prog g (first++([str x]++capv)) h1 (RetP fun v h'=>v=.bool (p x)/\Ext h1 h')) (hlen:l.length<9223372036854775808) :
  Sv Tryz.prog 124 [.slice a l.length cap,.func (.func g) ⟨first⟩ ⟨capv⟩] h (RetP fun v h'=>v=.bool (l.any p)/\Ext h h'):=by
 refine ZAF Tryz.func124 rfl (by rw[Tryz.ntmps124];rfl) ?_;show Wc Tryz.prog ⟨124,9,none⟩ _ _ _ _ _;refine zz ?_;refine ZA2 rfl rfl rfl rfl rfl Bod.h rfl rfl (ZJ4 hI hbd hp hlen) fun h1 hE1=>?_;refine zz ?_;refine ZBQ rfl rfl rfl rfl (ZDh rfl rfl) (fun hb=>?_) (fun hb=>?_)
 ·refine zz ?_
  exact ZAB (ZAC rfl ⟨by rw[<-ZBb,decide_eq_true hb];rfl,hE1⟩)
 ·refine zz ?_
  exact ZAB (ZAC rfl ⟨by rw[<-ZBb,decide_eq_false hb];rfl,hE1⟩)
theorem ZOb:∀{l p:List UInt8},p∈ZAn l->p.length<=l.length:=by
 intro l
 induction l with
 | nil=>intro p hp;simp[ZAn] at hp;simp[hp]
 | cons x l ih =>
  intro p hp;unfold ZAn at hp
  split at hp
  ·rcases List.mem_cons.1 hp with rfl|g
   ·simp
   ·have:=ih g;simp;omega
  ·split at hp
   ·rename_i hq;exact absurd hq (ZHS l)
   ·rename_i q qs hq
    rcases List.mem_cons.1 hp with rfl|g
    ·have:=ih (p:=q) (by rw[hq];exact List.mem_cons_self);simpa using this
    ·have:=ih (p:=p) (by rw[hq];exact List.mem_cons_of_mem _ g);simp;omega
def letB (c:UInt8):Bool:=decide (97<=c.toNat/\c.toNat<=122)
def fstL:List UInt8->Bool
 | []=>false
 | c::_=>letB c
def digB (c:UInt8):Bool:=decide (48<=c.toNat/\c.toNat<=57)
def ZBA (l:List UInt8):Bool:=decide (1<=l.length/\l.length<=24) && fstL l && (ZAn l).all fun p=>!(decide (p=[]) || !p.all al)
theorem ZAp (l:List UInt8)(h:Heap)(hlen:l.length<9223372036854775808):Sv Tryz.prog 77 [str l] h (RetP fun v h'=>v=.bool (ZBA l)/\Ext h h'):=by
 refine ZAF Tryz.func77 rfl (by rw[Tryz.ntmps77];rfl) ?_;show Wc Tryz.prog ⟨77,16,none⟩ _ _ _ _ _;refine zz ?_;refine ZAk rfl rfl rfl rfl rfl Bod.h rfl rfl (ZI5 _ _ _ _) (fun h1=>?_) (fun h1=>?_)
 ·refine zz ?_
  refine ZAB (ZAC rfl ⟨?_,Ext.refl _⟩);have:¬(1<=l.length/\l.length<=24):=by have:=of_decide_eq_true h1;omega
  simp only[ZBA,decide_eq_false this,Bool.false_and];rfl
 have h1':1<=l.length/\l.length<=24:=by have:=of_decide_eq_false h1;omega
 obtain⟨c,r,rfl⟩:∃c r,l=c::r:=by
  cases l with
  | nil=>simp at h1'
  | cons c r=>exact⟨c,r,rfl⟩
 refine zz ?_;refine ZAj rfl rfl rfl rfl (ZBD (k:=0) Und.h rfl rfl rfl (by simp)) ?_;refine ZAj rfl rfl rfl rfl (ZRL Und.h Und.h rfl) ?_;refine ZAk rfl rfl rfl rfl rfl Bod.h rfl rfl (ZI5 _ _ _ _) (fun h2=>?_) (fun h2=>?_)
 ·refine zz ?_
  refine ZAB (ZAC rfl ⟨?_,Ext.refl _⟩);have h2':=of_decide_eq_true h2;have:letB c=false:=decide_eq_false (by simp at h2';omega);simp only[ZBA,fstL,this,Bool.and_false,Bool.false_and];rfl
 have hlet:letB c=true:=decide_eq_true (by have:=of_decide_eq_false h2;simp at this;omega);refine zz ?_;refine ZA0 rfl rfl rfl rfl rfl Bod.h rfl rfl (ZSA _ _ (by omega)) ?_;rintro _ h3 ⟨a,cap,rfl,hst,hE3⟩;have hpl:∀p∈ZAn (c::r),p.length<9223372036854775808:=by
  intro p hp;have:=ZOb hp;omega
 refine ZA0 rfl rfl rfl rfl rfl Bod.h rfl rfl (ZG5 (first:=[]) (capv:=[]) (p:=fun p=>decide (p=[]) || !p.all al) hst Bod.h (fun h1 _ x hx=>ZSK x h1 (hpl x hx)) (by rw[ZIh];have:=List.count_le_length (a:=dash) (l:=c::r);omega)) ?_;rintro _ h4 ⟨rfl,hE4⟩;refine zz ?_;refine ZAB (ZAC rfl ⟨?_,hE3.trans hE4⟩);have:ZBA (c::r)=!(ZAn (c::r)).any fun p=>decide (p=[]) || !p.all al:=by
  simp only[ZBA,fstL,decide_eq_true h1',hlet,Bool.true_and];rw[List.all_eq_not_any_not];simp
 rw[this];rfl
def okAt (l:List UInt8)(i:Nat):Bool:=match l[i]? with
 | none=>true
 | some c=>letB c || digB c || (decide (c=dash) && !(decide (l[i-1]?=some dash)) && !decide (i+1=l.length))
def ZBI (l:List UInt8):Bool:=decide (1<=l.length/\l.length<=24) && fstL l && (List.range l.length).all (okAt l)
theorem ZTP {a b:UInt8}:(a.toNat:Int)=(b.toNat:Int) ↔ a=b:=by
 constructor
 ·intro h;exact UInt8.toNat_inj.1 (by omega)
 ·rintro rfl;rfl
end Go.Dw
