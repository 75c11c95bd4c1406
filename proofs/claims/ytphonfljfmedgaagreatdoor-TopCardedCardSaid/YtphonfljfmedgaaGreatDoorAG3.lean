/- C1: contracts of small functions of chapter 04. -/
import Derived.Test.YtphonfljfmedgaaGreatDoorAG2
import Derived.Test.YtphonfljfmedgaaGreatDoorATy
set_option linter.unusedVariables false
set_option linter.unusedSimpArgs false
namespace Go.Dw
open Go Go.Dx Go.Proofs
set_option maxRecDepth 100000
theorem ZFp (a lo hi:Int)(h:Heap):Sv Tryz.prog 48 [i64 a,i64 lo,i64 hi] h (RetP fun v h'=>v=.bool (decide (a<lo\/hi<a))/\h'=h):=by
 refine ZAF Tryz.func48 rfl (by rw[Tryz.ntmps48];rfl) ?_;show Wc Tryz.prog ⟨48,15,none⟩ _ _ _ _ _;refine zz ?_;refine ZBj rfl rfl rfl rfl (ZAx rfl rfl) (fun h1=>?_) (fun h1=>?_)
 ·refine zz ?_
  exact ZAB (ZAC rfl ⟨by rw[decide_eq_true (.inl h1)];rfl,rfl⟩)
 ·refine zz ?_
  refine ZBj rfl rfl rfl rfl (ZBw rfl rfl) (fun h2=>?_) (fun h2=>?_)
  ·refine zz ?_
   exact ZAB (ZAC rfl ⟨by rw[decide_eq_true (.inr h2)];rfl,rfl⟩)
  ·refine zz ?_
   exact ZAB (ZAC rfl ⟨by rw[decide_eq_false (not_or.2 ⟨h1,h2⟩)];rfl,rfl⟩)
def ZCl {α:Type}(p:α->Bool)(l:List α):Int:=match l.findIdx? p with
 | some i=>i
 | none=>-1
theorem ZIS {α:Type}(p:α->Bool)(l:List α):decide (0<=ZCl p l)=l.any p:=by
 unfold ZCl
 cases hq:l.findIdx? p with
 | none =>
  rw[List.findIdx?_eq_none_iff] at hq
  symm
  simp only[show ¬((0:Int) <= -1) by decide,decide_false];rw[List.any_eq_false];intro x hx;rw[hq x hx];simp
 | some i =>
  rw[List.findIdx?_eq_some_iff_getElem] at hq;obtain⟨h1,h2,_⟩:=hq;simp;exact⟨_,List.getElem_mem h1,h2⟩
def alN (n:Nat):Bool:=(decide (97<=n) && decide (n<=122)) || (decide (48<=n) && decide (n<=57))
def al (c:UInt8):Bool:=alN c.toNat
def tabC:List Value:=(List.range 256).map fun i=>.bool (alN i)
def ZEr:List UInt8:=[97,98,99,100,101,102,103,104,105,106,107,108,109,110,111,112,113,114,115,116,117,118,119,120,121,122,48,49,50,51,52,53,54,55,56,57]
def tabJ (l:List UInt8):List Value:=l.foldl (fun cs c=>cs.set c.toNat (Value.bool true)) (List.replicate 256 (Value.bool false))
theorem ZPY:∀(l:List UInt8)(cs:List Value),(l.foldl (fun cs c=>cs.set c.toNat (Value.bool true)) cs).length=cs.length
 | [],_=>rfl
 | c::l,cs=>by rw[List.foldl_cons,ZPY l,List.length_set]
theorem ZRJ (l:List UInt8):(tabJ l).length=256:=by
 unfold tabJ;rw[ZPY];exact List.length_replicate
theorem ZOX (l:List UInt8)(c:UInt8):tabJ (l++[c])=(tabJ l).set c.toNat (.bool true):=by
 unfold tabJ;rw[List.foldl_append];rfl
theorem ZQh:tabJ ZEr=tabC:=by kernel_rfl
theorem ZRY:∀c∈ZEr,c.toNat<128:=by decide
set_option maxHeartbeats 1000000 in
theorem ZTp (h:Heap):Sv Tryz.prog 121 [str ZEr] h (RetP fun v h'=>v=.tuple ⟨[.agg ⟨tabC⟩,.bool true]⟩/\Ext h h'):=by
 refine ZA0 fun hw=>?_;have hal:ZEr.length=36:=rfl;refine ZAF Tryz.func121 rfl (by rw[Tryz.ntmps121];rfl) ?_;show Wc Tryz.prog ⟨121,21,none⟩ _ _ _ _ _;refine zz ?_;refine ZAa rfl rfl Zr.h fun h1 hE1 hW1 hg1 hn1=>?_;have hb0:h.nx<=h.nx:=Nat.le_refl _;obtain⟨b,hb⟩:∃b,b=h.nx:=⟨_,rfl⟩;rw[<-hb] at hg1 ⊢;have hg0:h1.get b=some (.cells (tabJ []) 227 false):=by rw[hg1];kernel_rfl
 clear hg1;refine zz ?_;refine ZAS (fun (j:Nat) m ds h'=>ds=[]/\Ext h h'/\j<=36/\h'.get b=some (.cells (tabJ (ZEr.take j)) 227 false)/\AllK m [(0,str ZEr),(2,.pointer (some ⟨b,0,none⟩)),(4,i64 (j:Nat))]) (fun j=>36-j) 0 ?_ ?_
 ·exact⟨rfl,hE1,Nat.zero_le _,hg0,rfl,rfl,rfl,trivial⟩
 clear hg0 hE1 hW1;rintro j m ds h2 ⟨rfl,hE2,hj,hg2,hall⟩;refine Wc.le ?_ (Le.kn hall);clear hall;refine zz ?_;refine ZBj rfl rfl rfl rfl (ZAx rfl rfl) (fun hjl=>?_) (fun hjl=>?_);rotate_left
 ·have:j=36:=by rw[hal] at hjl;omega
  subst this;rw[show ZEr.take 36=ZEr from rfl,ZQh] at hg2;refine zz ?_;refine ZAe (r:=tabC) rfl Tsz.h rfl rfl hg2 (by kernel_rfl) (by kernel_rfl) (by kernel_rfl) fun h3 hU=>?_;have hE3:=hU.ext hE2 hw (by omega);have hg3:=hU.at';refine zz ?_;exact ZAB (ZAC (vs:=[.agg ⟨tabC⟩,.bool true]) (ZAW rfl (ZAt RowC.h (ZAL hg3 (by kernel_rfl))) (ZCU rfl rfl)) ⟨rfl,hE3⟩)
 have hj':j<ZEr.length:=by omega
 have htk:tabJ (ZEr.take (j+1))=(tabJ (ZEr.take j)).set ZEr[j].toNat (.bool true):=by
  rw[List.take_add_one,List.getElem?_eq_getElem hj',Option.toList_some,ZOX]
 have hc:=ZRY _ (List.getElem_mem hj');have hl:=ZRJ (ZEr.take j);refine zz ?_;refine ZAk rfl rfl rfl rfl (ZCx (k:=j) Und.h rfl rfl (by omega) (by omega)) ?_;generalize ZEr[j]=c at *;refine zz ?_;refine ZAk rfl rfl rfl rfl (A_ff (by omega) (ZHO rfl rfl)) ?_;refine zz ?_;refine ZAk rfl rfl rfl rfl (ZEY (k:=c.toNat) Und.h Tsz.h rfl rfl rfl (by omega)) ?_;refine ZAe rfl Tsz.h rfl rfl hg2 rfl rfl (ZFy (by omega)) fun h3 hU=>?_;have hE3:=hU.ext hE2 hw (by omega);have hg3:=hU.at';refine zz ?_;refine⟨j+1,(by show 36-(j+1)<36-j;omega),rfl,hE3,by omega,?_,rfl,rfl,rfl,trivial⟩;rw[hg3,htk];simp
theorem ZQX (c:UInt8):nth tabC c.toNat=some (.bool (al c)):=by
 have:=c.toNat_lt;rw[ZAq];simp[tabC,al,this]
theorem ZGt (b:Nat)(c:UInt8)(h:Heap)(t:TypeId)(op:Bool)(hg:h.get b=some (.cells tabC t op)):Sv Tryz.prog 150 [.pointer (some ⟨b,0,none⟩),byt c] h (RetP fun v h'=>v=.bool (al c)/\h'=h):=by
 refine ZAF Tryz.func150 rfl (by rw[Tryz.ntmps150];rfl) ?_;show Wc Tryz.prog ⟨150,10,none⟩ _ _ _ _ _;have hlt:=c.toNat_lt;have hc:ZAi h b (0+c.toNat*1)=some (.bool (al c)):=ZAP hg (by rw[Nat.zero_add,Nat.mul_one];exact ZQX c);refine zz ?_;refine ZAk rfl rfl rfl rfl (ZEZ rfl) ?_;refine ZAk rfl rfl rfl rfl (ZEY (k:=c.toNat) Und.h Tsz.h rfl rfl rfl hlt) ?_;refine zz ?_;exact ZAB (ZAC rfl ⟨rfl,rfl⟩)
def ZFl (l:List UInt8):List UInt8:=(l.reverse.dropWhile al).reverse
def ZIm (l:List UInt8):List UInt8:=l.dropWhile al
theorem ZHy (l:List UInt8)(c:UInt8):ZFl (l++[c])=if al c then ZFl l else l++[c]:=by
 unfold ZFl;simp only[List.reverse_append,List.reverse_cons,List.reverse_nil,List.nil_append,List.singleton_append,List.dropWhile_cons]
 split <;> simp
theorem ZMA (l:List UInt8):ZIm (ZFl l)=[] ↔ l.all al=true:=by
 have hdw:∀(r:List UInt8),r.dropWhile al=[] ↔ ∀x∈r,al x=true:=by
  intro r
  induction r with
  | nil=>simp
  | cons x r ih =>
   rw[List.dropWhile_cons];cases hx:al x
   ·simp[hx]
   ·simp[hx,ih]
 unfold ZIm ZFl;rw[hdw]
 constructor
 ·intro h
  rw[List.all_eq_true];intro x hx;have h1:l.reverse=l.reverse.takeWhile al++l.reverse.dropWhile al:=(List.takeWhile_append_dropWhile).symm;have hx':x∈l.reverse:=List.mem_reverse.2 hx;rw[h1] at hx'
  rcases List.mem_append.1 hx' with g|g
  ·exact List.all_eq_true.1 (List.all_takeWhile (p:=al)) x g
  ·exact h x (List.mem_reverse.2 g)
 ·intro h x hx
  have:x∈l.reverse:=List.dropWhile_sublist _ |>.mem (List.mem_reverse.1 hx);exact List.all_eq_true.1 h x (List.mem_reverse.1 this)
theorem ZJ6 (b:Nat)(l:List UInt8)(h:Heap)(t:TypeId)(op:Bool)(hg:h.get b=some (.cells tabC t op))(hlen:l.length<9223372036854775808):Sv Tryz.prog 123 [str l,.pointer (some ⟨b,0,none⟩)] h (RetP fun v h'=>v=str (ZFl l)/\h'=h):=by
 refine ZAF Tryz.func123 rfl (by rw[Tryz.ntmps123];rfl) ?_;show Wc Tryz.prog ⟨123,22,none⟩ _ _ _ _ _;refine zz ?_;refine ZAS (fun (s:List UInt8) m ds h'=>ds=[]/\h'=h/\s.length<=l.length/\ZFl s=ZFl l/\AllK m [(0,str s),(1,.pointer (some ⟨b,0,none⟩))]) (fun s=>s.length) l ?_ ?_
 ·exact⟨rfl,rfl,Nat.le_refl _,rfl,rfl,rfl,trivial⟩
 rintro s m ds h' ⟨rfl,rfl,hle,htr,hall⟩;refine Wc.le ?_ (Le.kn hall);refine zz ?_;refine ZBj rfl rfl rfl rfl (ZBw rfl rfl) (fun h1=>?_) (fun h1=>?_)
 ·have hpos:0<s.length:=by simpa using h1
  have hs:s=s.take (s.length-1)++[s[s.length-1]]:=by
   conv=>lhs;rw[<-List.dropLast_concat_getLast (List.ne_nil_of_length_pos hpos)]
   rw[List.dropLast_eq_take,List.getLast_eq_getElem]
  refine zz ?_;refine ZAk rfl rfl rfl rfl (ZCx (k:=s.length-1) Und.h rfl rfl (by omega) (by omega)) ?_;refine ZDG rfl rfl rfl rfl rfl Bod.h rfl rfl (ZGt b _ _ t op hg) (fun hb=>?_) (fun hb=>?_)
  ·refine zz ?_
   refine ZAk rfl rfl rfl rfl (ZKF (k:=s.length-1) Und.h rfl rfl (by omega) (by omega)) ?_;refine zz ?_;refine⟨s.take (s.length-1),?_,rfl,rfl,?_,?_,rfl,rfl,trivial⟩
   ·simp;omega
   ·simp;omega
   ·rw[<-htr]
    conv=>rhs;rw[hs]
    rw[ZHy,if_pos hb]
  ·refine zz ?_
   refine ZAB (ZAC rfl ⟨?_,rfl⟩);have:ZFl s=s:=by
    conv=>lhs;rw[hs]
    rw[ZHy,hb,if_neg (by simp)];exact hs.symm
   rw[<-htr,this];rfl
 ·have h0:s=[]:=by
   cases s with
   | nil=>rfl
   | cons x s=>exfalso;apply h1;simp
  subst h0;refine zz ?_;refine ZAB (ZAC rfl ⟨?_,rfl⟩);rw[<-htr];rfl
theorem ZLN (b:Nat)(l:List UInt8)(h:Heap)(t:TypeId)(op:Bool)(hg:h.get b=some (.cells tabC t op))(hlen:l.length<9223372036854775808):Sv Tryz.prog 122 [str l,.pointer (some ⟨b,0,none⟩)] h (RetP fun v h'=>v=str (ZIm l)/\h'=h):=by
 refine ZAF Tryz.func122 rfl (by rw[Tryz.ntmps122];rfl) ?_;show Wc Tryz.prog ⟨122,16,none⟩ _ _ _ _ _;refine zz ?_;refine ZAS (fun (s:List UInt8) m ds h'=>ds=[]/\h'=h/\s.length<=l.length/\ZIm s=ZIm l/\AllK m [(0,str s),(1,.pointer (some ⟨b,0,none⟩))]) (fun s=>s.length) l ?_ ?_
 ·exact⟨rfl,rfl,Nat.le_refl _,rfl,rfl,rfl,trivial⟩
 rintro s m ds h' ⟨rfl,rfl,hle,htr,hall⟩;refine Wc.le ?_ (Le.kn hall);refine zz ?_;refine ZBj rfl rfl rfl rfl (ZBw rfl rfl) (fun h1=>?_) (fun h1=>?_)
 ·have hpos:0<s.length:=by simpa using h1
  obtain⟨c,r,rfl⟩:∃c r,s=c::r:=by
   cases s with
   | nil=>simp at hpos
   | cons c r=>exact⟨c,r,rfl⟩
  refine zz ?_;refine ZAk rfl rfl rfl rfl (ZCx (k:=0) Und.h rfl rfl rfl hpos) ?_;refine ZDG rfl rfl rfl rfl rfl Bod.h rfl rfl (ZGt b _ _ t op hg) (fun hb=>?_) (fun hb=>?_)
  ·refine zz ?_
   refine ZAk rfl rfl rfl rfl (ZJ5 (k:=1) Und.h rfl rfl rfl (by simp)) ?_;refine zz ?_;refine⟨r,?_,rfl,rfl,?_,?_,rfl,rfl,trivial⟩
   ·simp
   ·simp at hle;omega
   ·rw[<-htr]
    have hb':al c=true:=hb;simp[ZIm,List.dropWhile_cons,hb']
  ·refine zz ?_
   refine ZAB (ZAC rfl ⟨?_,rfl⟩);have hb':al c=false:=hb;have:ZIm (c::r)=c::r:=by simp[ZIm,List.dropWhile_cons,hb']
   rw[<-htr,this];rfl
 ·have h0:s=[]:=by
   cases s with
   | nil=>rfl
   | cons x s=>exfalso;apply h1;simp
  subst h0;refine zz ?_;refine ZAB (ZAC rfl ⟨?_,rfl⟩);rw[<-htr];rfl
theorem ZSg (l:List UInt8)(h:Heap)(hne:l≠[])(hlen:l.length<9223372036854775808):Sv Tryz.prog 87 [str l,str ZEr] h (RetP fun v h'=>v=str (ZIm (ZFl l))/\Ext h h'):=by
 refine ZA0 fun hw=>?_;refine ZAF Tryz.func87 rfl (by rw[Tryz.ntmps87];rfl) ?_;show Wc Tryz.prog ⟨87,43,none⟩ _ _ _ _ _;refine zz ?_;refine ZBj rfl rfl rfl rfl (ZBO rfl rfl) (fun h1=>?_) (fun h1=>?_)
 ·exact absurd h1 hne
 refine zz ?_;refine ZBj rfl rfl rfl rfl (ZBO rfl rfl) (fun h2=>?_) (fun h2=>?_)
 ·exact absurd h2 (by decide)
 refine zz ?_;refine ZBj rfl rfl rfl rfl (ZBA rfl rfl) (fun h3=>?_) (fun h3=>?_)
 ·exact absurd h3 (by decide)
 refine zz ?_;refine ZBe rfl rfl rfl rfl rfl Bod.h rfl rfl (ZTp h) fun h1 hE1=>?_;refine zz ?_;refine ZAa rfl rfl Zr.h fun h2 hE2 hW2 hg2 hn2=>?_;refine ZAe (r:=tabC) rfl Tsz.h rfl rfl hg2 (by kernel_rfl) (by kernel_rfl) (by kernel_rfl) fun h3 hU3=>?_;have hE3:Ext h h3:=hU3.ext (hE1.trans hE2) hw hE1.2.1;refine zz ?_;refine ZBe rfl rfl rfl rfl rfl Bod.h rfl rfl (ZJ6 _ l h3 227 false hU3.at' hlen).grows fun h4 hE4=>?_;have hl4:(ZFl l).length<=l.length:=by
  unfold ZFl;have:=(List.dropWhile_sublist al (l:=l.reverse)).length_le;simp at this ⊢;exact this
 refine ZBe rfl rfl rfl rfl rfl Bod.h rfl rfl (ZLN _ (ZFl l) h4 227 false (hE4.get hU3.at') (by omega)).grows fun h5 hE5=>?_;refine zz ?_;exact ZAB (ZAC rfl ⟨rfl,(hE3.trans hE4).trans hE5⟩)
theorem ZQo (l:List UInt8)(h:Heap)(hlen:l.length<9223372036854775808):Sv Tryz.prog 86 [str l] h (RetP fun v h'=>v=.bool (decide (l=[]) || !l.all al)/\Ext h h'):=by
 refine ZAF Tryz.func86 rfl (by rw[Tryz.ntmps86];rfl) ?_;show Wc Tryz.prog ⟨86,10,none⟩ _ _ _ _ _;refine zz ?_;refine ZBj rfl rfl rfl rfl (ZBO rfl rfl) (fun h1=>?_) (fun h1=>?_)
 ·refine zz ?_
  exact ZAB (ZAC rfl ⟨by rw[decide_eq_true h1];rfl,Ext.refl _⟩)
 ·refine zz ?_
  refine ZBe rfl rfl rfl rfl rfl Bod.h rfl rfl (ZSg l h h1 hlen) fun h2 hE2=>?_;refine ZBj rfl rfl rfl rfl (ZFI rfl rfl) (fun h3=>?_) (fun h3=>?_)
  ·refine zz ?_
   refine ZAB (ZAC rfl ⟨?_,hE2⟩);have:l.all al=false:=by
    cases hq:l.all al with
    | false=>rfl
    | true=>exact absurd ((ZMA l).2 hq) h3
   rw[this];simp;rfl
  ·refine zz ?_
   refine ZAB (ZAC rfl ⟨?_,hE2⟩);have:l.all al=true:=(ZMA l).1 (Classical.not_not.1 h3);rw[this,decide_eq_false h1];rfl
def dash:UInt8:=45
def ZA2:List UInt8->List (List UInt8)
 | []=>[[]]
 | x::l=>if x=dash then []::ZA2 l else match ZA2 l with
  | []=>[[x]]
  | p::ps=>(x::p)::ps
theorem ZGa (l:List UInt8):ZA2 l≠[]:=by
 cases l with
 | nil=>simp[ZA2]
 | cons x l =>
  unfold ZA2
  split
  ·simp
  ·split <;> simp
theorem ZH8 (l:List UInt8):(ZA2 l).length=l.count dash+1:=by
 induction l with
 | nil=>rfl
 | cons x l ih =>
  unfold ZA2
  by_cases hx:x=dash
  ·simp[hx,ih]
  ·rw[if_neg hx,List.count_cons_of_ne hx]
   split
   ·rename_i hq;exact absurd hq (ZGa l)
   ·rename_i p ps hq;rw[hq] at ih;simpa using ih
theorem ZNF {p:List UInt8}(hp:dash ∉ p)(l:List UInt8):ZA2 (p++dash::l)=p::ZA2 l:=by
 induction p with
 | nil=>simp[ZA2]
 | cons x p ih =>
  simp only[List.mem_cons,not_or] at hp;rw[List.cons_append,ZA2,if_neg (fun e=>hp.1 e.symm),ih hp.2]
theorem ZLi {l:List UInt8}(h:dash ∉ l):ZA2 l=[l]:=by
 induction l with
 | nil=>rfl
 | cons x l ih =>
  simp only[List.mem_cons,not_or] at h;rw[ZA2,if_neg (fun e=>h.1 e.symm),ih h.2]
theorem ZGk (l:List UInt8):(Lib.indexByte l dash = -1/\dash ∉ l)\/∃k:Nat,Lib.indexByte l dash=k/\k<l.length/\l=l.take k++dash::l.drop (k+1)/\dash ∉ l.take k:=by
 induction l with
 | nil=>exact .inl ⟨rfl,by simp⟩
 | cons x l ih =>
  unfold Lib.indexByte
  by_cases hx:x=dash
  ·refine .inr ⟨0,by simp[hx],by simp,by simp[hx],by simp⟩
  ·have hb:(x == dash)=false:=by simpa using hx
   rcases ih with ⟨h1,h2⟩|⟨k,h1,h2,h3,h4⟩
   ·exact .inl ⟨by simp[hb,h1],by simp[h2,Ne.symm hx]⟩
   ·refine .inr ⟨k+1,?_,by simpa using h2,?_,?_⟩
    ·rw[h1]
     have:((k:Int) == -1)=false:=by simp
     simp[hb,this]
    ·simp only[List.take_succ_cons,List.drop_succ_cons,List.cons_append]
     rw[<-h3]
    ·simp[h4,Ne.symm hx]
theorem ZFi {m:Mem}{h:Heap}{d:Option Tmp}{ty:TypeId}{pos:String}{af:Array Edge}{gu:Option (Nat×Bool)}{x y:Operand}{ts:Array TypeId}{l:List UInt8}{c:UInt8}(hx:opk h m x=some (str l))(hy:opk h m y=some (byt c)) :
  Aop Tryz.prog ⟨d,.call ⟨.value (.func 183),#[x,y],ts⟩,ty,pos,af,gu⟩ m h (i64 (Lib.indexByte l c)) h :=
 ZR1 Tryz.func183 (by kernel_rfl) (by kernel_rfl) (by kernel_rfl) (by kernel_rfl) hx hy rfl rfl rfl fun w=>by
  rw[Lib.run_indexByteString];simp
theorem ZIn {m:Mem}{h:Heap}{d:Option Tmp}{ty:TypeId}{pos:String}{af:Array Edge}{gu:Option (Nat×Bool)}{x y:Operand}{ts:Array TypeId}{l:List UInt8}{c:UInt8}(hx:opk h m x=some (str l))(hy:opk h m y=some (byt c)) :
  Aop Tryz.prog ⟨d,.call ⟨.value (.func 165),#[x,y],ts⟩,ty,pos,af,gu⟩ m h (i64 (l.count c:Nat)) h :=
 ZR1 Tryz.func165 (by kernel_rfl) (by kernel_rfl) (by kernel_rfl) (by kernel_rfl) hx hy rfl rfl rfl fun w=>by
  rw[Lib.run_countString];simp[Lib.countByte]
theorem ZOI (l:List UInt8)(c:UInt8)(h:Heap):Sv Tryz.prog 175 [str l,byt c] h (RetP fun v h'=>v=i64 (Lib.indexByte l c)/\h'=h):=by
 refine ZAF Tryz.func175 rfl (by rw[Tryz.ntmps175];rfl) ?_;show Wc Tryz.prog ⟨175,8,none⟩ _ _ _ _ _;refine zz ?_;refine ZMM (ZRz rfl (fun _ hq=>nomatch hq) (ZFi rfl rfl) ?_) rfl;refine zz ?_;exact ZAB (ZAC rfl ⟨rfl,rfl⟩)
theorem ZRI (l:List UInt8)(h:Heap):Sv Tryz.prog 149 [str l,str [45]] h (RetP fun v h'=>v=i64 (Lib.indexByte l dash)/\h'=h):=by
 have key:Sv Tryz.prog 166 [str l,str [45]] h (RetP fun v h'=>v=i64 (Lib.indexByte l dash)/\h'=h):=by
  refine ZAF Tryz.func166 rfl (by rw[Tryz.ntmps166];rfl) ?_;show Wc Tryz.prog ⟨166,143,none⟩ _ _ _ _ _;refine zz ?_;refine ZBj rfl rfl rfl rfl (ZBA rfl rfl) (fun h1=>?_) (fun h1=>?_)
  ·exact absurd h1 (by decide)
  refine zz ?_;refine ZBj rfl rfl rfl rfl (ZBO rfl rfl) (fun h2=>?_) (fun h2=>?_)
  ·refine zz ?_
   subst h2;exact ZAB (ZAC rfl ⟨rfl,rfl⟩)
  refine zz ?_;refine ZBj rfl rfl rfl rfl (ZBA rfl rfl) (fun h3=>?_) (fun h3=>?_)
  ·refine zz ?_
   refine ZAk rfl rfl rfl rfl (ZCx (k:=0) Und.h rfl rfl rfl (by decide)) ?_;refine ZDo rfl rfl rfl rfl rfl Bod.h rfl rfl (ZOI l dash h) ?_;refine zz ?_;exact ZAB (ZAC rfl ⟨rfl,rfl⟩)
  ·exact absurd rfl h3
 refine ZAF Tryz.func149 rfl (by rw[Tryz.ntmps149];rfl) ?_;show Wc Tryz.prog ⟨149,8,none⟩ _ _ _ _ _;refine zz ?_;refine ZDo rfl rfl rfl rfl rfl Bod.h rfl rfl key ?_;refine zz ?_;exact ZAB (ZAC rfl ⟨rfl,rfl⟩)
theorem ZRX (l:List UInt8)(h:Heap):Sv Tryz.prog 148 [str l,str [45]] h (RetP fun v h'=>v=i64 (l.count dash:Nat)/\h'=h):=by
 refine ZAF Tryz.func148 rfl (by rw[Tryz.ntmps148];rfl) ?_;show Wc Tryz.prog ⟨148,34,none⟩ _ _ _ _ _;refine zz ?_;refine ZBj rfl rfl rfl rfl (ZBA rfl rfl) (fun h1=>?_) (fun h1=>?_)
 ·exact absurd h1 (by decide)
 refine zz ?_;refine ZBj rfl rfl rfl rfl (ZBA rfl rfl) (fun h2=>?_) (fun h2=>?_)
 ·refine zz ?_
  refine ZAk rfl rfl rfl rfl (ZCx (k:=0) Und.h rfl rfl rfl (by decide)) ?_;refine ZMM (ZRz rfl (fun _ hq=>nomatch hq) (ZIn (c:=dash) rfl rfl) ?_) rfl;refine zz ?_;exact ZAB (ZAC rfl ⟨rfl,rfl⟩)
 ·exact absurd rfl h2
theorem ZKp (n:Nat)(z:Value):rep n [z]=List.replicate n z:=by
 induction n with
 | zero=>rfl
 | succ n ih=>rw[List.replicate_succ,<-ih];rfl
theorem ZLU (l:List UInt8)(h:Heap)(hlen:l.length<1000000) :
  Sv Tryz.prog 118 [str l,str [45],i64 0,i64 (-1)] h (RetP fun v h'=>∃a cap,v=.slice a (ZA2 l).length cap/\ZMc h' a (ZA2 l)/\Ext h h'):=by
 have hcl:l.count dash<=l.length:=List.count_le_length;refine ZA0 fun hw=>?_;refine ZAF Tryz.func118 rfl (by rw[Tryz.ntmps118];rfl) ?_;show Wc Tryz.prog ⟨118,66,none⟩ _ _ _ _ _;refine zz ?_;refine ZBj rfl rfl rfl rfl (ZBA rfl rfl) (fun h1=>?_) (fun h1=>?_)
 ·exact absurd h1 (by decide)
 refine zz ?_;refine ZBj rfl rfl rfl rfl (ZBO rfl rfl) (fun h2=>?_) (fun h2=>?_)
 ·exact absurd h2 (by decide)
 refine zz ?_;refine ZBj rfl rfl rfl rfl (ZAx rfl rfl) (fun h3=>?_) (fun h3=>?_)
 ·refine zz ?_
  refine ZDo rfl rfl rfl rfl rfl Bod.h rfl rfl (ZRX l h) ?_;refine zz ?_;refine ZAk rfl rfl rfl rfl (ZSa rfl rfl) ?_;have hmin:min ((l.count dash:Int)+1) ((l.length:Int)+1)=(l.count dash:Int)+1:=by omega
  rw[hmin];refine zz ?_;refine ZAk rfl rfl rfl rfl (ZHc (k:=l.count dash+1) Und.h (inferInstance:Elm _ _ _ _) Zr.h rfl rfl (by simp) (by omega) (by omega)) ?_;generalize hh1:h.add _=h1;have hg1:h1.get h.nx=some (.cells (List.replicate (l.count dash+1) (str [])) 9 false):=by
   rw[<-hh1,<-ZKp];exact Heap.get_add_same
  have hE1:Ext h h1:=by rw[<-hh1];exact Ext.add hw _
  clear hh1;generalize hb:h.nx=b at *;refine zz ?_
  refine ZAS (fun (st:List (List UInt8)×List UInt8) m ds h2=>ds=[]/\Ext h h2/\st.1.length+st.2.count dash=l.count dash/\ZA2 l=st.1++ZA2 st.2/\st.2.length<=l.length ∧
    h2.get b=some (.cells (st.1.map str++List.replicate (l.count dash+1-st.1.length) (str [])) 9 false) ∧
    AllK m [(0,str st.2),(1,str [45]),(2,i64 0),(3,i64 (l.count dash:Nat)),(9,.slice (some ⟨b,0,none⟩) (l.count dash+1) (l.count dash+1)),(10,i64 st.1.length)])
   (fun st=>st.2.length) ([],l) ?_ ?_
  ·refine⟨rfl,hE1,by simp,rfl,Nat.le_refl _,by simpa using hg1,rfl,rfl,rfl,?_,rfl,rfl,trivial⟩
   show some (Value.int .i64 ((l.count dash:Int)+1-1))=_
   simp
  rintro⟨dn,s⟩ m ds h2 ⟨rfl,hE2,hcnt,hsp,hsl,hg2,hall⟩;simp only at hcnt hsp hsl hg2 hall;have key:∀m',AllK m' [(9,.slice (some ⟨b,0,none⟩) (l.count dash+1) (l.count dash+1)),(10,i64 dn.length),(0,str s)]->dash ∉ s->True:=fun _ _ _=>trivial;refine Wc.le ?_ (Le.kn hall);refine zz ?_;refine ZBj rfl rfl rfl rfl (ZAx rfl rfl) (fun h4=>?_) (fun h4=>?_)
  ·have hdn:dn.length<l.count dash:=by simpa using h4
   refine zz ?_;refine ZDo rfl rfl rfl rfl rfl Bod.h rfl rfl (ZRI s h2) ?_
   rcases ZGk s with ⟨g1,g2⟩|⟨k,g1,g2,g3,g4⟩
   ·exfalso
    have:=List.count_eq_zero.2 g2;omega
   rw[g1];refine zz ?_;refine ZBj rfl rfl rfl rfl (ZAx rfl rfl) (fun h5=>?_) (fun h5=>?_)
   ·exact absurd h5 (by omega)
   refine zz ?_;refine ZAk rfl rfl rfl rfl (ZKF (k:=k) Und.h rfl rfl (by omega) (by omega)) ?_;refine ZAk rfl rfl rfl rfl (ZAN (k:=dn.length) Und.h Tsz.h rfl rfl rfl (by omega)) ?_;refine ZAe (r:=(dn++[s.take k]).map str++List.replicate (l.count dash+1-(dn.length+1)) (str [])) rfl Tsz.h rfl rfl hg2 rfl rfl ?_ fun h3 hU3=>?_
   ·show lay _ (0+dn.length*1) [str (s.take k)]=_
    rw[ZFy (by simp;omega)]
    congr 1
    have:l.count dash+1-dn.length=(l.count dash+1-(dn.length+1))+1:=by omega
    rw[this,List.replicate_succ,Nat.zero_add,Nat.mul_one,List.set_append_right _ _ (by simp)];simp
   refine zz ?_;refine ZAk rfl rfl rfl rfl (ZUP rfl rfl (by simp;omega) (by simp;omega)) ?_;refine ZAk rfl rfl rfl rfl (ZJ5 (k:=k+1) Und.h rfl rfl (by simp) (by omega)) ?_;refine zz ?_;have hs':ZA2 s=s.take k::ZA2 (s.drop (k+1)):=by
    conv=>lhs;rw[g3]
    exact ZNF g4 _
   refine⟨(dn++[s.take k],s.drop (k+1)),?_,rfl,?_,?_,?_,?_,?_,rfl,rfl,rfl,rfl,rfl,?_,trivial⟩
   ·simp;omega
   ·exact hU3.ext hE2 hw (by omega)
   ·have hc:s.count dash=1+(s.drop (k+1)).count dash:=by
     conv=>lhs;rw[g3]
     rw[List.count_append,List.count_eq_zero.2 g4,List.count_cons_self];omega
    simp only[List.length_append,List.length_singleton];omega
   ·simp only[List.append_assoc,List.singleton_append];rw[hsp,hs']
   ·simp;omega
   ·rw[hU3.at'];simp
   ·show some (Value.int .i64 ((dn.length:Int)+1))=_
    simp
  ·have hdn:dn.length=l.count dash:=by omega
   have hc0:s.count dash=0:=by omega
   have hs':ZA2 s=[s]:=ZLi (List.count_eq_zero.1 hc0);rw[hs'] at hsp;refine zz ?_;refine ZAk rfl rfl rfl rfl (ZAN (k:=dn.length) Und.h Tsz.h rfl rfl rfl (by omega)) ?_;refine ZAe (r:=(ZA2 l).map str) rfl Tsz.h rfl rfl hg2 rfl rfl ?_ fun h3 hU3=>?_
   ·show lay _ (0+dn.length*1) [str s]=_
    rw[ZFy (by simp;omega)]
    congr 1
    have:l.count dash+1-dn.length=1:=by omega
    rw[this,Nat.zero_add,Nat.mul_one,List.set_append_right _ _ (by simp),hsp];simp
   refine zz ?_;have hsl':=ZH8 l;refine ZAk rfl rfl rfl rfl (ZFC (k:=(ZA2 l).length) Und.h Tsz.h rfl rfl (by rw[hsl'];omega) (by omega)) ?_;refine zz ?_;refine ZAB (ZAC rfl ⟨_,_,rfl,fun i hi=>⟨b,0,none,rfl,?_⟩,hU3.ext hE2 hw (by omega)⟩);refine ZAP hU3.at' ?_;rw[ZAq];simp[hi]
 ·exact absurd (by decide) h3
theorem ZRH (l:List UInt8)(h:Heap)(hlen:l.length<1000000) :
  Sv Tryz.prog 85 [str l,str [45]] h (RetP fun v h'=>∃a cap,v=.slice a (ZA2 l).length cap/\ZMc h' a (ZA2 l)/\Ext h h'):=by
 refine ZAF Tryz.func85 rfl (by rw[Tryz.ntmps85];rfl) ?_;show Wc Tryz.prog ⟨85,8,none⟩ _ _ _ _ _;refine zz ?_;refine ZA5 rfl rfl rfl rfl rfl Bod.h rfl rfl (ZLU l h hlen) ?_;rintro _ h1 ⟨a,cap,rfl,h2,h3⟩;refine zz ?_;exact ZAB (ZAC rfl ⟨a,cap,rfl,h2,h3⟩)
theorem ZIc {a:Option Addr}{cap:Nat}{l:List (List UInt8)}{h:Heap}{g:FuncId}{first capv:List Value}{p:List UInt8->Bool}(hI:ZMc h a l)(hbd:ZAy Tryz.prog g=true)
  (hp:∀h1,Ext h h1->∀x∈l,Sv Tryz.prog g (first++([str x]++capv)) h1 (RetP fun v h'=>v=.bool (p x)/\Ext h1 h')) (hlen:l.length<9223372036854775808) :
  Sv Tryz.prog 117 [.slice a l.length cap,.func (.func g) ⟨first⟩ ⟨capv⟩] h (RetP fun v h'=>v=i64 (ZCl p l)/\Ext h h'):=by
 refine ZAF Tryz.func117 rfl (by rw[Tryz.ntmps117];rfl) ?_;show Wc Tryz.prog ⟨117,19,none⟩ _ _ _ _ _;refine zz ?_
 refine ZAS (fun (k:Nat) m ds h'=>ds=[]/\Ext h h'/\k<=l.length/\(∀j (hj:j<l.length),j<k->p l[j]=false)/\AllK m [(0,.slice a l.length cap),(1,.func (.func g) ⟨first⟩ ⟨capv⟩),(7,i64 l.length),(8,i64 k)])
  (fun k=>l.length-k) 0 ?_ ?_
 ·exact⟨rfl,Ext.refl _,Nat.zero_le _,(fun _ _ hj=>by omega),rfl,rfl,rfl,rfl,trivial⟩
 rintro k m ds h' ⟨rfl,hE,hk,hno,hall⟩;refine Wc.le ?_ (Le.kn hall);refine zz ?_;refine ZBj rfl rfl rfl rfl (ZAx rfl rfl) (fun h1=>?_) (fun h1=>?_)
 ·have hk':k<l.length:=by simpa using h1
  obtain⟨b,o,oa,rfl,hc⟩:=hI k hk';refine zz ?_;refine ZAk rfl rfl rfl rfl (A_ix Und.h Tsz.h rfl rfl) ?_;refine zz ?_;refine ZRv rfl rfl rfl rfl rfl hbd rfl rfl (hp h' hE _ (List.getElem_mem hk')) (fun hb h2 hE2=>?_) (fun hb h2 hE2=>?_)
  ·refine zz ?_
   refine ZAB (ZAC rfl ⟨?_,hE.trans hE2⟩);have:l.findIdx? p=some k:=by
    rw[List.findIdx?_eq_some_iff_getElem];exact⟨hk',hb,fun j hj=>by simp[hno j (by omega) hj]⟩
   simp[ZCl,this];rfl
  ·refine zz ?_
   refine⟨k+1,?_,rfl,hE.trans hE2,hk',?_,rfl,rfl,rfl,rfl,trivial⟩
   ·show l.length-(k+1)<l.length-k;omega
   ·intro j hj hlt
    rcases Nat.lt_or_ge j k with g|g
    ·exact hno j hj g
    ·have:j=k:=by omega
     subst this;exact hb
 ·have hk2:k=l.length:=by omega
  subst hk2;refine zz ?_;refine ZAB (ZAC rfl ⟨?_,hE⟩);have:l.findIdx? p=none:=by
   rw[List.findIdx?_eq_none_iff];intro x hx;obtain⟨j,hj,rfl⟩:=List.getElem_of_mem hx;exact hno j hj hj
  simp[ZCl,this];rfl
theorem ZGI {a:Option Addr}{cap:Nat}{l:List (List UInt8)}{h:Heap}{g:FuncId}{first capv:List Value}{p:List UInt8->Bool}(hI:ZMc h a l)(hbd:ZAy Tryz.prog g=true)
  (hp:∀h1,Ext h h1->∀x∈l,Sv Tryz.prog g (first++([str x]++capv)) h1 (RetP fun v h'=>v=.bool (p x)/\Ext h1 h')) (hlen:l.length<9223372036854775808) :
  Sv Tryz.prog 84 [.slice a l.length cap,.func (.func g) ⟨first⟩ ⟨capv⟩] h (RetP fun v h'=>v=.bool (l.any p)/\Ext h h'):=by
 refine ZAF Tryz.func84 rfl (by rw[Tryz.ntmps84];rfl) ?_;show Wc Tryz.prog ⟨84,9,none⟩ _ _ _ _ _;refine zz ?_;refine ZBe rfl rfl rfl rfl rfl Bod.h rfl rfl (ZIc hI hbd hp hlen) fun h1 hE1=>?_;refine zz ?_;refine ZBj rfl rfl rfl rfl (ZHO rfl rfl) (fun hb=>?_) (fun hb=>?_)
 ·refine zz ?_
  exact ZAB (ZAC rfl ⟨by rw[<-ZIS,decide_eq_true hb];rfl,hE1⟩)
 ·refine zz ?_
  exact ZAB (ZAC rfl ⟨by rw[<-ZIS,decide_eq_false hb];rfl,hE1⟩)
theorem ZNV:∀{l p:List UInt8},p∈ZA2 l->p.length<=l.length:=by
 intro l
 induction l with
 | nil=>intro p hp;simp[ZA2] at hp;simp[hp]
 | cons x l ih =>
  intro p hp;unfold ZA2 at hp
  split at hp
  ·rcases List.mem_cons.1 hp with rfl|g
   ·simp
   ·have:=ih g;simp;omega
  ·split at hp
   ·rename_i hq;exact absurd hq (ZGa l)
   ·rename_i q qs hq
    rcases List.mem_cons.1 hp with rfl|g
    ·have:=ih (p:=q) (by rw[hq];exact List.mem_cons_self);simpa using this
    ·have:=ih (p:=p) (by rw[hq];exact List.mem_cons_of_mem _ g);simp;omega
def letB (c:UInt8):Bool:=decide (97<=c.toNat/\c.toNat<=122)
def fstL:List UInt8->Bool
 | []=>false
 | c::_=>letB c
def ZFg (l:List UInt8):Bool:=decide (1<=l.length/\l.length<=24) && fstL l && (ZA2 l).all fun p=>!(decide (p=[]) || !p.all al)
theorem ZHJ (l:List UInt8)(h:Heap)(hlen:l.length<9223372036854775808):Sv Tryz.prog 56 [str l] h (RetP fun v h'=>v=.bool (ZFg l)/\Ext h h'):=by
 refine ZAF Tryz.func56 rfl (by rw[Tryz.ntmps56];rfl) ?_;show Wc Tryz.prog ⟨56,16,none⟩ _ _ _ _ _;refine zz ?_;refine ZDG rfl rfl rfl rfl rfl Bod.h rfl rfl (ZFp _ _ _ _) (fun h1=>?_) (fun h1=>?_)
 ·refine zz ?_
  refine ZAB (ZAC rfl ⟨?_,Ext.refl _⟩);have:¬(1<=l.length/\l.length<=24):=by have:=of_decide_eq_true h1;omega
  simp only[ZFg,decide_eq_false this,Bool.false_and];rfl
 have h1':1<=l.length/\l.length<=24:=by have:=of_decide_eq_false h1;omega
 obtain⟨c,r,rfl⟩:∃c r,l=c::r:=by
  cases l with
  | nil=>simp at h1'
  | cons c r=>exact⟨c,r,rfl⟩
 refine zz ?_;refine ZAk rfl rfl rfl rfl (ZCx (k:=0) Und.h rfl rfl rfl (by simp)) ?_;refine ZAk rfl rfl rfl rfl (ZPy Und.h Und.h rfl) ?_;refine ZDG rfl rfl rfl rfl rfl Bod.h rfl rfl (ZFp _ _ _ _) (fun h2=>?_) (fun h2=>?_)
 ·refine zz ?_
  refine ZAB (ZAC rfl ⟨?_,Ext.refl _⟩);have h2':=of_decide_eq_true h2;have:letB c=false:=decide_eq_false (by simp at h2';omega);simp only[ZFg,fstL,this,Bool.and_false,Bool.false_and];rfl
 have hlet:letB c=true:=decide_eq_true (by have:=of_decide_eq_false h2;simp at this;omega);refine zz ?_;refine ZA5 rfl rfl rfl rfl rfl Bod.h rfl rfl (ZRH _ _ (by omega)) ?_;rintro _ h3 ⟨a,cap,rfl,hst,hE3⟩;have hpl:∀p∈ZA2 (c::r),p.length<9223372036854775808:=by
  intro p hp;have:=ZNV hp;omega
 refine ZA5 rfl rfl rfl rfl rfl Bod.h rfl rfl (ZGI (first:=[]) (capv:=[]) (p:=fun p=>decide (p=[]) || !p.all al) hst Bod.h (fun h1 _ x hx=>ZQo x h1 (hpl x hx)) (by rw[ZH8];have:=List.count_le_length (a:=dash) (l:=c::r);omega)) ?_;rintro _ h4 ⟨rfl,hE4⟩;refine zz ?_;refine ZAB (ZAC rfl ⟨?_,hE3.trans hE4⟩);have:ZFg (c::r)=!(ZA2 (c::r)).any fun p=>decide (p=[]) || !p.all al:=by
  simp only[ZFg,fstL,decide_eq_true h1',hlet,Bool.true_and];rw[List.all_eq_not_any_not];simp
 rw[this];rfl
end Go.Dw
