/- C1: contracts of small functions of chapter 04. -/
import Derived.Test.YthlmgoefjmlndaaGreatDoorYG2
import Derived.Test.YthlmgoefjmlndaaGreatDoorYTy
set_option linter.unusedVariables false
set_option linter.unusedSimpArgs false
namespace Go.Dw
open Go Go.Dx Go.Proofs
set_option maxRecDepth 100000
theorem ZJf (a lo hi:Int)(h:Heap):Sv Tryz.prog 79 [i64 a,i64 lo,i64 hi] h (RetP fun v h'=>v=.bool (decide (lo<=a/\a<=hi))/\h'=h):=by
 refine ZAG Tryz.func79 rfl (by rw[Tryz.ntmps79];rfl) ?_;show Wc Tryz.prog ⟨79,15,none⟩ _ _ _ _ _;refine zz ?_;refine ZAN rfl rfl rfl rfl (ZFF rfl rfl) (fun h1=>?_) (fun h1=>?_)
 ·refine zz ?_
  refine ZAN rfl rfl rfl rfl (ZGe rfl rfl) (fun h2=>?_) (fun h2=>?_)
  ·refine zz ?_
   exact ZAE (ZAF rfl ⟨by rw[decide_eq_true ⟨h1,h2⟩];rfl,rfl⟩)
  ·refine zz ?_
   exact ZAE (ZAF rfl ⟨by rw[decide_eq_false (fun x=>h2 x.2)];rfl,rfl⟩)
 ·refine zz ?_
  exact ZAE (ZAF rfl ⟨by rw[decide_eq_false (fun x=>h1 x.1)];rfl,rfl⟩)
theorem ZIW (a lo hi:Int)(h:Heap):Sv Tryz.prog 123 [i64 a,i64 lo,i64 hi] h (RetP fun v h'=>v=.bool (decide (a<lo\/hi<a))/\h'=h):=by
 refine ZAG Tryz.func123 rfl (by rw[Tryz.ntmps123];rfl) ?_;show Wc Tryz.prog ⟨123,15,none⟩ _ _ _ _ _;refine zz ?_;refine ZAN rfl rfl rfl rfl (ZAY rfl rfl) (fun h1=>?_) (fun h1=>?_)
 ·refine zz ?_
  exact ZAE (ZAF rfl ⟨by rw[decide_eq_true (.inl h1)];rfl,rfl⟩)
 ·refine zz ?_
  refine ZAN rfl rfl rfl rfl (ZCb rfl rfl) (fun h2=>?_) (fun h2=>?_)
  ·refine zz ?_
   exact ZAE (ZAF rfl ⟨by rw[decide_eq_true (.inr h2)];rfl,rfl⟩)
  ·refine zz ?_
   exact ZAE (ZAF rfl ⟨by rw[decide_eq_false (not_or.2 ⟨h1,h2⟩)];rfl,rfl⟩)
theorem ZTG (a lo hi:Int)(h:Heap):Sv Tryz.prog 128 [i64 a,i64 lo,i64 hi] h (RetP fun v h'=>v=.bool (decide (lo<=a/\a<=hi))/\h'=h):=by
 refine ZAG Tryz.func128 rfl (by rw[Tryz.ntmps128];rfl) ?_;show Wc Tryz.prog ⟨128,15,none⟩ _ _ _ _ _;refine zz ?_;refine ZAN rfl rfl rfl rfl (ZFF rfl rfl) (fun h1=>?_) (fun h1=>?_)
 ·refine zz ?_
  refine ZAN rfl rfl rfl rfl (ZGe rfl rfl) (fun h2=>?_) (fun h2=>?_)
  ·refine zz ?_
   exact ZAE (ZAF rfl ⟨by rw[decide_eq_true ⟨h1,h2⟩];rfl,rfl⟩)
  ·refine zz ?_
   exact ZAE (ZAF rfl ⟨by rw[decide_eq_false (fun x=>h2 x.2)];rfl,rfl⟩)
 ·refine zz ?_
  exact ZAE (ZAF rfl ⟨by rw[decide_eq_false (fun x=>h1 x.1)];rfl,rfl⟩)
def ZJ9 {α:Type}(p:α->Bool)(l:List α):Int:=match l.findIdx? p with
 | some i=>i
 | none=>-1
theorem ZIb {α:Type}(p:α->Bool)(l:List α):decide (0<=ZJ9 p l)=l.any p:=by
 unfold ZJ9
 cases hq:l.findIdx? p with
 | none =>
  rw[List.findIdx?_eq_none_iff] at hq
  symm
  simp only[show ¬((0:Int) <= -1) by decide,decide_false];rw[List.any_eq_false];intro x hx;rw[hq x hx];simp
 | some i =>
  rw[List.findIdx?_eq_some_iff_getElem] at hq;obtain⟨h1,h2,_⟩:=hq;simp;exact⟨_,List.getElem_mem h1,h2⟩
def alN (n:Nat):Bool:=(decide (97<=n) && decide (n<=122)) || (decide (48<=n) && decide (n<=57))
def al (c:UInt8):Bool:=alN c.toNat
def tabC:List Value:=(List.range 256).map fun i=>.bool (alN i)
def ZEs:List UInt8:=[97,98,99,100,101,102,103,104,105,106,107,108,109,110,111,112,113,114,115,116,117,118,119,120,121,122,48,49,50,51,52,53,54,55,56,57]
def tabJ (l:List UInt8):List Value:=l.foldl (fun cs c=>cs.set c.toNat (Value.bool true)) (List.replicate 256 (Value.bool false))
theorem ZQA:∀(l:List UInt8)(cs:List Value),(l.foldl (fun cs c=>cs.set c.toNat (Value.bool true)) cs).length=cs.length
 | [],_=>rfl
 | c::l,cs=>by rw[List.foldl_cons,ZQA l,List.length_set]
theorem ZQV (l:List UInt8):(tabJ l).length=256:=by
 unfold tabJ;rw[ZQA];exact List.length_replicate
theorem ZOw (l:List UInt8)(c:UInt8):tabJ (l++[c])=(tabJ l).set c.toNat (.bool true):=by
 unfold tabJ;rw[List.foldl_append];rfl
theorem ZRU:tabJ ZEs=tabC:=by kernel_rfl
theorem ZQq:∀c∈ZEs,c.toNat<128:=by decide
set_option maxHeartbeats 1000000 in
theorem ZTH (h:Heap):Sv Tryz.prog 176 [str ZEs] h (RetP fun v h'=>v=.tuple ⟨[.agg ⟨tabC⟩,.bool true]⟩/\Ext h h'):=by
 refine ZC9 fun hw=>?_;have hal:ZEs.length=36:=rfl;refine ZAG Tryz.func176 rfl (by rw[Tryz.ntmps176];rfl) ?_;show Wc Tryz.prog ⟨176,21,none⟩ _ _ _ _ _;refine zz ?_;refine ZB8 rfl rfl Zr.h fun h1 hE1 hW1 hg1 hn1=>?_;have hb0:h.nx<=h.nx:=Nat.le_refl _;obtain⟨b,hb⟩:∃b,b=h.nx:=⟨_,rfl⟩;rw[<-hb] at hg1 ⊢;have hg0:h1.get b=some (.cells (tabJ []) 262 false):=by rw[hg1];kernel_rfl
 clear hg1;refine zz ?_;refine ZAQ (fun (j:Nat) m ds h'=>ds=[]/\Ext h h'/\j<=36/\h'.get b=some (.cells (tabJ (ZEs.take j)) 262 false)/\AllK m [(0,str ZEs),(2,.pointer (some ⟨b,0,none⟩)),(4,i64 (j:Nat))]) (fun j=>36-j) 0 ?_ ?_
 ·exact⟨rfl,hE1,Nat.zero_le _,hg0,rfl,rfl,rfl,trivial⟩
 clear hg0 hE1 hW1;rintro j m ds h2 ⟨rfl,hE2,hj,hg2,hall⟩;refine Wc.le ?_ (Le.kn hall);clear hall;refine zz ?_;refine ZAN rfl rfl rfl rfl (ZAY rfl rfl) (fun hjl=>?_) (fun hjl=>?_);rotate_left
 ·have:j=36:=by rw[hal] at hjl;omega
  subst this;rw[show ZEs.take 36=ZEs from rfl,ZRU] at hg2;refine zz ?_;refine ZBI (r:=tabC) rfl Tsz.h rfl rfl hg2 (by kernel_rfl) (by kernel_rfl) (by kernel_rfl) fun h3 hU=>?_;have hE3:=hU.ext hE2 hw (by omega);have hg3:=hU.at';refine zz ?_;exact ZAE (ZAF (vs:=[.agg ⟨tabC⟩,.bool true]) (ZD9 rfl (ZD7 RowC.h (ZAZ hg3 (by kernel_rfl))) (ZRo rfl rfl)) ⟨rfl,hE3⟩)
 have hj':j<ZEs.length:=by omega
 have htk:tabJ (ZEs.take (j+1))=(tabJ (ZEs.take j)).set ZEs[j].toNat (.bool true):=by
  rw[List.take_add_one,List.getElem?_eq_getElem hj',Option.toList_some,ZOw]
 have hc:=ZQq _ (List.getElem_mem hj');have hl:=ZQV (ZEs.take j);refine zz ?_;refine ZAD rfl rfl rfl rfl (ZAa (k:=j) Und.h rfl rfl (by omega) (by omega)) ?_;generalize ZEs[j]=c at *;refine zz ?_;refine ZAD rfl rfl rfl rfl (A_ff (by omega) (ZFF rfl rfl)) ?_;refine zz ?_;refine ZAD rfl rfl rfl rfl (ZCU (k:=c.toNat) Und.h Tsz.h rfl rfl rfl (by omega)) ?_;refine ZBI rfl Tsz.h rfl rfl hg2 rfl rfl (ZD6 (by omega)) fun h3 hU=>?_;have hE3:=hU.ext hE2 hw (by omega);have hg3:=hU.at';refine zz ?_;refine⟨j+1,(by show 36-(j+1)<36-j;omega),rfl,hE3,by omega,?_,rfl,rfl,rfl,trivial⟩;rw[hg3,htk];simp
theorem ZQX (c:UInt8):nth tabC c.toNat=some (.bool (al c)):=by
 have:=c.toNat_lt;rw[ZAv];simp[tabC,al,this]
theorem ZHW (b:Nat)(c:UInt8)(h:Heap)(t:TypeId)(op:Bool)(hg:h.get b=some (.cells tabC t op)):Sv Tryz.prog 250 [.pointer (some ⟨b,0,none⟩),byt c] h (RetP fun v h'=>v=.bool (al c)/\h'=h):=by
 refine ZAG Tryz.func250 rfl (by rw[Tryz.ntmps250];rfl) ?_;show Wc Tryz.prog ⟨250,10,none⟩ _ _ _ _ _;have hlt:=c.toNat_lt;have hc:ZAb h b (0+c.toNat*1)=some (.bool (al c)):=ZAk hg (by rw[Nat.zero_add,Nat.mul_one];exact ZQX c);refine zz ?_;refine ZAD rfl rfl rfl rfl (ZIU rfl) ?_;refine ZAD rfl rfl rfl rfl (ZCU (k:=c.toNat) Und.h Tsz.h rfl rfl rfl hlt) ?_;refine zz ?_;exact ZAE (ZAF rfl ⟨rfl,rfl⟩)
def ZGA (l:List UInt8):List UInt8:=(l.reverse.dropWhile al).reverse
def ZIo (l:List UInt8):List UInt8:=l.dropWhile al
theorem ZIK (l:List UInt8)(c:UInt8):ZGA (l++[c])=if al c then ZGA l else l++[c]:=by
 unfold ZGA;simp only[List.reverse_append,List.reverse_cons,List.reverse_nil,List.nil_append,List.singleton_append,List.dropWhile_cons]
 split <;> simp
theorem ZM6 (l:List UInt8):ZIo (ZGA l)=[] ↔ l.all al=true:=by
 have hdw:∀(r:List UInt8),r.dropWhile al=[] ↔ ∀x∈r,al x=true:=by
  intro r
  induction r with
  | nil=>simp
  | cons x r ih =>
   rw[List.dropWhile_cons];cases hx:al x
   ·simp[hx]
   ·simp[hx,ih]
 unfold ZIo ZGA;rw[hdw]
 constructor
 ·intro h
  rw[List.all_eq_true];intro x hx;have h1:l.reverse=l.reverse.takeWhile al++l.reverse.dropWhile al:=(List.takeWhile_append_dropWhile).symm;have hx':x∈l.reverse:=List.mem_reverse.2 hx;rw[h1] at hx'
  rcases List.mem_append.1 hx' with g|g
  ·exact List.all_eq_true.1 (List.all_takeWhile (p:=al)) x g
  ·exact h x (List.mem_reverse.2 g)
 ·intro h x hx
  have:x∈l.reverse:=List.dropWhile_sublist _ |>.mem (List.mem_reverse.1 hx);exact List.all_eq_true.1 h x (List.mem_reverse.1 this)
theorem ZJp (b:Nat)(l:List UInt8)(h:Heap)(t:TypeId)(op:Bool)(hg:h.get b=some (.cells tabC t op))(hlen:l.length<9223372036854775808):Sv Tryz.prog 178 [str l,.pointer (some ⟨b,0,none⟩)] h (RetP fun v h'=>v=str (ZGA l)/\h'=h):=by
 refine ZAG Tryz.func178 rfl (by rw[Tryz.ntmps178];rfl) ?_;show Wc Tryz.prog ⟨178,22,none⟩ _ _ _ _ _;refine zz ?_;refine ZAQ (fun (s:List UInt8) m ds h'=>ds=[]/\h'=h/\s.length<=l.length/\ZGA s=ZGA l/\AllK m [(0,str s),(1,.pointer (some ⟨b,0,none⟩))]) (fun s=>s.length) l ?_ ?_
 ·exact⟨rfl,rfl,Nat.le_refl _,rfl,rfl,rfl,trivial⟩
 rintro s m ds h' ⟨rfl,rfl,hle,htr,hall⟩;refine Wc.le ?_ (Le.kn hall);refine zz ?_;refine ZAN rfl rfl rfl rfl (ZCb rfl rfl) (fun h1=>?_) (fun h1=>?_)
 ·have hpos:0<s.length:=by simpa using h1
  have hs:s=s.take (s.length-1)++[s[s.length-1]]:=by
   conv=>lhs;rw[<-List.dropLast_concat_getLast (List.ne_nil_of_length_pos hpos)]
   rw[List.dropLast_eq_take,List.getLast_eq_getElem]
  refine zz ?_;refine ZAD rfl rfl rfl rfl (ZAa (k:=s.length-1) Und.h rfl rfl (by omega) (by omega)) ?_;refine ZCP rfl rfl rfl rfl rfl Bod.h rfl rfl (ZHW b _ _ t op hg) (fun hb=>?_) (fun hb=>?_)
  ·refine zz ?_
   refine ZAD rfl rfl rfl rfl (ZFB (k:=s.length-1) Und.h rfl rfl (by omega) (by omega)) ?_;refine zz ?_;refine⟨s.take (s.length-1),?_,rfl,rfl,?_,?_,rfl,rfl,trivial⟩
   ·simp;omega
   ·simp;omega
   ·rw[<-htr]
    conv=>rhs;rw[hs]
    rw[ZIK,if_pos hb]
  ·refine zz ?_
   refine ZAE (ZAF rfl ⟨?_,rfl⟩);have:ZGA s=s:=by
    conv=>lhs;rw[hs]
    rw[ZIK,hb,if_neg (by simp)];exact hs.symm
   rw[<-htr,this];rfl
 ·have h0:s=[]:=by
   cases s with
   | nil=>rfl
   | cons x s=>exfalso;apply h1;simp
  subst h0;refine zz ?_;refine ZAE (ZAF rfl ⟨?_,rfl⟩);rw[<-htr];rfl
theorem ZMM (b:Nat)(l:List UInt8)(h:Heap)(t:TypeId)(op:Bool)(hg:h.get b=some (.cells tabC t op))(hlen:l.length<9223372036854775808):Sv Tryz.prog 177 [str l,.pointer (some ⟨b,0,none⟩)] h (RetP fun v h'=>v=str (ZIo l)/\h'=h):=by
 refine ZAG Tryz.func177 rfl (by rw[Tryz.ntmps177];rfl) ?_;show Wc Tryz.prog ⟨177,16,none⟩ _ _ _ _ _;refine zz ?_;refine ZAQ (fun (s:List UInt8) m ds h'=>ds=[]/\h'=h/\s.length<=l.length/\ZIo s=ZIo l/\AllK m [(0,str s),(1,.pointer (some ⟨b,0,none⟩))]) (fun s=>s.length) l ?_ ?_
 ·exact⟨rfl,rfl,Nat.le_refl _,rfl,rfl,rfl,trivial⟩
 rintro s m ds h' ⟨rfl,rfl,hle,htr,hall⟩;refine Wc.le ?_ (Le.kn hall);refine zz ?_;refine ZAN rfl rfl rfl rfl (ZCb rfl rfl) (fun h1=>?_) (fun h1=>?_)
 ·have hpos:0<s.length:=by simpa using h1
  obtain⟨c,r,rfl⟩:∃c r,s=c::r:=by
   cases s with
   | nil=>simp at hpos
   | cons c r=>exact⟨c,r,rfl⟩
  refine zz ?_;refine ZAD rfl rfl rfl rfl (ZAa (k:=0) Und.h rfl rfl rfl hpos) ?_;refine ZCP rfl rfl rfl rfl rfl Bod.h rfl rfl (ZHW b _ _ t op hg) (fun hb=>?_) (fun hb=>?_)
  ·refine zz ?_
   refine ZAD rfl rfl rfl rfl (ZFC (k:=1) Und.h rfl rfl rfl (by simp)) ?_;refine zz ?_;refine⟨r,?_,rfl,rfl,?_,?_,rfl,rfl,trivial⟩
   ·simp
   ·simp at hle;omega
   ·rw[<-htr]
    have hb':al c=true:=hb;simp[ZIo,List.dropWhile_cons,hb']
  ·refine zz ?_
   refine ZAE (ZAF rfl ⟨?_,rfl⟩);have hb':al c=false:=hb;have:ZIo (c::r)=c::r:=by simp[ZIo,List.dropWhile_cons,hb']
   rw[<-htr,this];rfl
 ·have h0:s=[]:=by
   cases s with
   | nil=>rfl
   | cons x s=>exfalso;apply h1;simp
  subst h0;refine zz ?_;refine ZAE (ZAF rfl ⟨?_,rfl⟩);rw[<-htr];rfl
theorem ZSG (l:List UInt8)(h:Heap)(hne:l≠[])(hlen:l.length<9223372036854775808):Sv Tryz.prog 127 [str l,str ZEs] h (RetP fun v h'=>v=str (ZIo (ZGA l))/\Ext h h'):=by
 refine ZC9 fun hw=>?_;refine ZAG Tryz.func127 rfl (by rw[Tryz.ntmps127];rfl) ?_;show Wc Tryz.prog ⟨127,43,none⟩ _ _ _ _ _;refine zz ?_;refine ZAN rfl rfl rfl rfl (ZAf rfl rfl) (fun h1=>?_) (fun h1=>?_)
 ·exact absurd h1 hne
 refine zz ?_;refine ZAN rfl rfl rfl rfl (ZAf rfl rfl) (fun h2=>?_) (fun h2=>?_)
 ·exact absurd h2 (by decide)
 refine zz ?_;refine ZAN rfl rfl rfl rfl (ZAh rfl rfl) (fun h3=>?_) (fun h3=>?_)
 ·exact absurd h3 (by decide)
 refine zz ?_;refine ZAV rfl rfl rfl rfl rfl Bod.h rfl rfl (ZTH h) fun h1 hE1=>?_;refine zz ?_;refine ZB8 rfl rfl Zr.h fun h2 hE2 hW2 hg2 hn2=>?_;refine ZBI (r:=tabC) rfl Tsz.h rfl rfl hg2 (by kernel_rfl) (by kernel_rfl) (by kernel_rfl) fun h3 hU3=>?_;have hE3:Ext h h3:=hU3.ext (hE1.trans hE2) hw hE1.2.1;refine zz ?_;refine ZAV rfl rfl rfl rfl rfl Bod.h rfl rfl (ZJp _ l h3 262 false hU3.at' hlen).grows fun h4 hE4=>?_;have hl4:(ZGA l).length<=l.length:=by
  unfold ZGA;have:=(List.dropWhile_sublist al (l:=l.reverse)).length_le;simp at this ⊢;exact this
 refine ZAV rfl rfl rfl rfl rfl Bod.h rfl rfl (ZMM _ (ZGA l) h4 262 false (hE4.get hU3.at') (by omega)).grows fun h5 hE5=>?_;refine zz ?_;exact ZAE (ZAF rfl ⟨rfl,(hE3.trans hE4).trans hE5⟩)
theorem ZQ0 (l:List UInt8)(h:Heap)(hlen:l.length<9223372036854775808):Sv Tryz.prog 126 [str l] h (RetP fun v h'=>v=.bool (decide (l=[]) || !l.all al)/\Ext h h'):=by
 refine ZAG Tryz.func126 rfl (by rw[Tryz.ntmps126];rfl) ?_;show Wc Tryz.prog ⟨126,10,none⟩ _ _ _ _ _;refine zz ?_;refine ZAN rfl rfl rfl rfl (ZAf rfl rfl) (fun h1=>?_) (fun h1=>?_)
 ·refine zz ?_
  exact ZAE (ZAF rfl ⟨by rw[decide_eq_true h1];rfl,Ext.refl _⟩)
 ·refine zz ?_
  refine ZAV rfl rfl rfl rfl rfl Bod.h rfl rfl (ZSG l h h1 hlen) fun h2 hE2=>?_;refine ZAN rfl rfl rfl rfl (ZAi rfl rfl) (fun h3=>?_) (fun h3=>?_)
  ·refine zz ?_
   refine ZAE (ZAF rfl ⟨?_,hE2⟩);have:l.all al=false:=by
    cases hq:l.all al with
    | false=>rfl
    | true=>exact absurd ((ZM6 l).2 hq) h3
   rw[this];simp;rfl
  ·refine zz ?_
   refine ZAE (ZAF rfl ⟨?_,hE2⟩);have:l.all al=true:=(ZM6 l).1 (Classical.not_not.1 h3);rw[this,decide_eq_false h1];rfl
def dash:UInt8:=45
def ZAl:List UInt8->List (List UInt8)
 | []=>[[]]
 | x::l=>if x=dash then []::ZAl l else match ZAl l with
  | []=>[[x]]
  | p::ps=>(x::p)::ps
theorem ZHe (l:List UInt8):ZAl l≠[]:=by
 cases l with
 | nil=>simp[ZAl]
 | cons x l =>
  unfold ZAl
  split
  ·simp
  ·split <;> simp
theorem ZIh (l:List UInt8):(ZAl l).length=l.count dash+1:=by
 induction l with
 | nil=>rfl
 | cons x l ih =>
  unfold ZAl
  by_cases hx:x=dash
  ·simp[hx,ih]
  ·rw[if_neg hx,List.count_cons_of_ne hx]
   split
   ·rename_i hq;exact absurd hq (ZHe l)
   ·rename_i p ps hq;rw[hq] at ih;simpa using ih
theorem ZNn {p:List UInt8}(hp:dash ∉ p)(l:List UInt8):ZAl (p++dash::l)=p::ZAl l:=by
 induction p with
 | nil=>simp[ZAl]
 | cons x p ih =>
  simp only[List.mem_cons,not_or] at hp;rw[List.cons_append,ZAl,if_neg (fun e=>hp.1 e.symm),ih hp.2]
theorem ZLf {l:List UInt8}(h:dash ∉ l):ZAl l=[l]:=by
 induction l with
 | nil=>rfl
 | cons x l ih =>
  simp only[List.mem_cons,not_or] at h;rw[ZAl,if_neg (fun e=>h.1 e.symm),ih h.2]
theorem ZGx (l:List UInt8):(Lib.indexByte l dash = -1/\dash ∉ l)\/∃k:Nat,Lib.indexByte l dash=k/\k<l.length/\l=l.take k++dash::l.drop (k+1)/\dash ∉ l.take k:=by
 induction l with
 | nil=>exact .inl ⟨rfl,by simp⟩
 | cons x l ih =>
  unfold Lib.indexByte
  by_cases hx:x=dash
  ·refine .inr ⟨0,by simp[hx],by simp,by simp[hx],by simp⟩
  ·have hb:(x == dash)=false:=by simpa using hx
   rcases ih with ⟨h1,h2⟩|⟨k,h1,h2,h3,h4⟩
   ·exact .inl ⟨by simp[hb,h1],by simp[h2,Ne.symm hx]⟩
   ·refine .inr ⟨k+1,?_,by simpa using h2,?_,?_⟩
    ·rw[h1]
     have:((k:Int) == -1)=false:=by simp
     simp[hb,this]
    ·simp only[List.take_succ_cons,List.drop_succ_cons,List.cons_append]
     rw[<-h3]
    ·simp[h4,Ne.symm hx]
theorem ZGH {m:Mem}{h:Heap}{d:Option Tmp}{ty:TypeId}{pos:String}{af:Array Edge}{gu:Option (Nat×Bool)}{x y:Operand}{ts:Array TypeId}{l:List UInt8}{c:UInt8}(hx:opk h m x=some (str l))(hy:opk h m y=some (byt c)) :
  Aop Tryz.prog ⟨d,.call ⟨.value (.func 342),#[x,y],ts⟩,ty,pos,af,gu⟩ m h (i64 (Lib.indexByte l c)) h :=
 ZR8 Tryz.func342 (by kernel_rfl) (by kernel_rfl) (by kernel_rfl) (by kernel_rfl) hx hy rfl rfl rfl fun w=>by
  rw[Lib.run_indexByteString];simp
theorem ZJQ {m:Mem}{h:Heap}{d:Option Tmp}{ty:TypeId}{pos:String}{af:Array Edge}{gu:Option (Nat×Bool)}{x y:Operand}{ts:Array TypeId}{l:List UInt8}{c:UInt8}(hx:opk h m x=some (str l))(hy:opk h m y=some (byt c)) :
  Aop Tryz.prog ⟨d,.call ⟨.value (.func 295),#[x,y],ts⟩,ty,pos,af,gu⟩ m h (i64 (l.count c:Nat)) h :=
 ZR8 Tryz.func295 (by kernel_rfl) (by kernel_rfl) (by kernel_rfl) (by kernel_rfl) hx hy rfl rfl rfl fun w=>by
  rw[Lib.run_countString];simp[Lib.countByte]
theorem ZPx (l:List UInt8)(c:UInt8)(h:Heap):Sv Tryz.prog 325 [str l,byt c] h (RetP fun v h'=>v=i64 (Lib.indexByte l c)/\h'=h):=by
 refine ZAG Tryz.func325 rfl (by rw[Tryz.ntmps325];rfl) ?_;show Wc Tryz.prog ⟨325,8,none⟩ _ _ _ _ _;refine zz ?_;refine ZMo (ZSA rfl (fun _ hq=>nomatch hq) (ZGH rfl rfl) ?_) rfl;refine zz ?_;exact ZAE (ZAF rfl ⟨rfl,rfl⟩)
theorem ZQj (l:List UInt8)(h:Heap):Sv Tryz.prog 249 [str l,str [45]] h (RetP fun v h'=>v=i64 (Lib.indexByte l dash)/\h'=h):=by
 have key:Sv Tryz.prog 296 [str l,str [45]] h (RetP fun v h'=>v=i64 (Lib.indexByte l dash)/\h'=h):=by
  refine ZAG Tryz.func296 rfl (by rw[Tryz.ntmps296];rfl) ?_;show Wc Tryz.prog ⟨296,143,none⟩ _ _ _ _ _;refine zz ?_;refine ZAN rfl rfl rfl rfl (ZAh rfl rfl) (fun h1=>?_) (fun h1=>?_)
  ·exact absurd h1 (by decide)
  refine zz ?_;refine ZAN rfl rfl rfl rfl (ZAf rfl rfl) (fun h2=>?_) (fun h2=>?_)
  ·refine zz ?_
   subst h2;exact ZAE (ZAF rfl ⟨rfl,rfl⟩)
  refine zz ?_;refine ZAN rfl rfl rfl rfl (ZAh rfl rfl) (fun h3=>?_) (fun h3=>?_)
  ·refine zz ?_
   refine ZAD rfl rfl rfl rfl (ZAa (k:=0) Und.h rfl rfl rfl (by decide)) ?_;refine ZAR rfl rfl rfl rfl rfl Bod.h rfl rfl (ZPx l dash h) ?_;refine zz ?_;exact ZAE (ZAF rfl ⟨rfl,rfl⟩)
  ·exact absurd rfl h3
 refine ZAG Tryz.func249 rfl (by rw[Tryz.ntmps249];rfl) ?_;show Wc Tryz.prog ⟨249,8,none⟩ _ _ _ _ _;refine zz ?_;refine ZAR rfl rfl rfl rfl rfl Bod.h rfl rfl key ?_;refine zz ?_;exact ZAE (ZAF rfl ⟨rfl,rfl⟩)
theorem ZQa (l:List UInt8)(h:Heap):Sv Tryz.prog 248 [str l,str [45]] h (RetP fun v h'=>v=i64 (l.count dash:Nat)/\h'=h):=by
 refine ZAG Tryz.func248 rfl (by rw[Tryz.ntmps248];rfl) ?_;show Wc Tryz.prog ⟨248,34,none⟩ _ _ _ _ _;refine zz ?_;refine ZAN rfl rfl rfl rfl (ZAh rfl rfl) (fun h1=>?_) (fun h1=>?_)
 ·exact absurd h1 (by decide)
 refine zz ?_;refine ZAN rfl rfl rfl rfl (ZAh rfl rfl) (fun h2=>?_) (fun h2=>?_)
 ·refine zz ?_
  refine ZAD rfl rfl rfl rfl (ZAa (k:=0) Und.h rfl rfl rfl (by decide)) ?_;refine ZMo (ZSA rfl (fun _ hq=>nomatch hq) (ZJQ (c:=dash) rfl rfl) ?_) rfl;refine zz ?_;exact ZAE (ZAF rfl ⟨rfl,rfl⟩)
 ·exact absurd rfl h2
theorem ZSL (n:Nat)(z:Value):rep n [z]=List.replicate n z:=by
 induction n with
 | zero=>rfl
 | succ n ih=>rw[List.replicate_succ,<-ih];rfl
theorem ZMC (l:List UInt8)(h:Heap)(hlen:l.length<1000000) :
  Sv Tryz.prog 173 [str l,str [45],i64 0,i64 (-1)] h (RetP fun v h'=>∃a cap,v=.slice a (ZAl l).length cap/\ZNF h' a (ZAl l)/\Ext h h'):=by
 have hcl:l.count dash<=l.length:=List.count_le_length;refine ZC9 fun hw=>?_;refine ZAG Tryz.func173 rfl (by rw[Tryz.ntmps173];rfl) ?_;show Wc Tryz.prog ⟨173,66,none⟩ _ _ _ _ _;refine zz ?_;refine ZAN rfl rfl rfl rfl (ZAh rfl rfl) (fun h1=>?_) (fun h1=>?_)
 ·exact absurd h1 (by decide)
 refine zz ?_;refine ZAN rfl rfl rfl rfl (ZAf rfl rfl) (fun h2=>?_) (fun h2=>?_)
 ·exact absurd h2 (by decide)
 refine zz ?_;refine ZAN rfl rfl rfl rfl (ZAY rfl rfl) (fun h3=>?_) (fun h3=>?_)
 ·refine zz ?_
  refine ZAR rfl rfl rfl rfl rfl Bod.h rfl rfl (ZQa l h) ?_;refine zz ?_;refine ZAD rfl rfl rfl rfl (ZTz rfl rfl) ?_;have hmin:min ((l.count dash:Int)+1) ((l.length:Int)+1)=(l.count dash:Int)+1:=by omega
  rw[hmin];refine zz ?_;refine ZAD rfl rfl rfl rfl (ZLg (k:=l.count dash+1) Und.h (inferInstance:Elm _ _ _ _) Zr.h rfl rfl (by simp) (by omega) (by omega)) ?_;generalize hh1:h.add _=h1;have hg1:h1.get h.nx=some (.cells (List.replicate (l.count dash+1) (str [])) 9 false):=by
   rw[<-hh1,<-ZSL];exact Heap.get_add_same
  have hE1:Ext h h1:=by rw[<-hh1];exact Ext.add hw _
  clear hh1;generalize hb:h.nx=b at *;refine zz ?_
  refine ZAQ (fun (st:List (List UInt8)×List UInt8) m ds h2=>ds=[]/\Ext h h2/\st.1.length+st.2.count dash=l.count dash/\ZAl l=st.1++ZAl st.2/\st.2.length<=l.length ∧
    h2.get b=some (.cells (st.1.map str++List.replicate (l.count dash+1-st.1.length) (str [])) 9 false) ∧
    AllK m [(0,str st.2),(1,str [45]),(2,i64 0),(3,i64 (l.count dash:Nat)),(9,.slice (some ⟨b,0,none⟩) (l.count dash+1) (l.count dash+1)),(10,i64 st.1.length)])
   (fun st=>st.2.length) ([],l) ?_ ?_
  ·refine⟨rfl,hE1,by simp,rfl,Nat.le_refl _,by simpa using hg1,rfl,rfl,rfl,?_,rfl,rfl,trivial⟩
   show some (Value.int .i64 ((l.count dash:Int)+1-1))=_
   simp
  rintro⟨dn,s⟩ m ds h2 ⟨rfl,hE2,hcnt,hsp,hsl,hg2,hall⟩;simp only at hcnt hsp hsl hg2 hall;have key:∀m',AllK m' [(9,.slice (some ⟨b,0,none⟩) (l.count dash+1) (l.count dash+1)),(10,i64 dn.length),(0,str s)]->dash ∉ s->True:=fun _ _ _=>trivial;refine Wc.le ?_ (Le.kn hall);refine zz ?_;refine ZAN rfl rfl rfl rfl (ZAY rfl rfl) (fun h4=>?_) (fun h4=>?_)
  ·have hdn:dn.length<l.count dash:=by simpa using h4
   refine zz ?_;refine ZAR rfl rfl rfl rfl rfl Bod.h rfl rfl (ZQj s h2) ?_
   rcases ZGx s with ⟨g1,g2⟩|⟨k,g1,g2,g3,g4⟩
   ·exfalso
    have:=List.count_eq_zero.2 g2;omega
   rw[g1];refine zz ?_;refine ZAN rfl rfl rfl rfl (ZAY rfl rfl) (fun h5=>?_) (fun h5=>?_)
   ·exact absurd h5 (by omega)
   refine zz ?_;refine ZAD rfl rfl rfl rfl (ZFB (k:=k) Und.h rfl rfl (by omega) (by omega)) ?_;refine ZAD rfl rfl rfl rfl (ZAO (k:=dn.length) Und.h Tsz.h rfl rfl rfl (by omega)) ?_;refine ZBI (r:=(dn++[s.take k]).map str++List.replicate (l.count dash+1-(dn.length+1)) (str [])) rfl Tsz.h rfl rfl hg2 rfl rfl ?_ fun h3 hU3=>?_
   ·show lay _ (0+dn.length*1) [str (s.take k)]=_
    rw[ZD6 (by simp;omega)]
    congr 1
    have:l.count dash+1-dn.length=(l.count dash+1-(dn.length+1))+1:=by omega
    rw[this,List.replicate_succ,Nat.zero_add,Nat.mul_one,List.set_append_right _ _ (by simp)];simp
   refine zz ?_;refine ZAD rfl rfl rfl rfl (ZSr rfl rfl (by simp;omega) (by simp;omega)) ?_;refine ZAD rfl rfl rfl rfl (ZFC (k:=k+1) Und.h rfl rfl (by simp) (by omega)) ?_;refine zz ?_;have hs':ZAl s=s.take k::ZAl (s.drop (k+1)):=by
    conv=>lhs;rw[g3]
    exact ZNn g4 _
   refine⟨(dn++[s.take k],s.drop (k+1)),?_,rfl,?_,?_,?_,?_,?_,rfl,rfl,rfl,rfl,rfl,?_,trivial⟩
   ·simp;omega
   ·exact hU3.ext hE2 hw (by omega)
   ·have hc:s.count dash=1+(s.drop (k+1)).count dash:=by
     conv=>lhs;rw[g3]
     rw[List.count_append,List.count_eq_zero.2 g4,List.count_cons_self];omega
    simp only[List.length_append,List.length_singleton];omega
   ·simp only[List.append_assoc,List.singleton_append];rw[hsp,hs']
   ·simp;omega
   ·rw[hU3.at'];simp
   ·show some (Value.int .i64 ((dn.length:Int)+1))=_
    simp
  ·have hdn:dn.length=l.count dash:=by omega
   have hc0:s.count dash=0:=by omega
   have hs':ZAl s=[s]:=ZLf (List.count_eq_zero.1 hc0);rw[hs'] at hsp;refine zz ?_;refine ZAD rfl rfl rfl rfl (ZAO (k:=dn.length) Und.h Tsz.h rfl rfl rfl (by omega)) ?_;refine ZBI (r:=(ZAl l).map str) rfl Tsz.h rfl rfl hg2 rfl rfl ?_ fun h3 hU3=>?_
   ·show lay _ (0+dn.length*1) [str s]=_
    rw[ZD6 (by simp;omega)]
    congr 1
    have:l.count dash+1-dn.length=1:=by omega
    rw[this,Nat.zero_add,Nat.mul_one,List.set_append_right _ _ (by simp),hsp];simp
   refine zz ?_;have hsl':=ZIh l;refine ZAD rfl rfl rfl rfl (ZJl (k:=(ZAl l).length) Und.h Tsz.h rfl rfl (by rw[hsl'];omega) (by omega)) ?_;refine zz ?_;refine ZAE (ZAF rfl ⟨_,_,rfl,fun i hi=>⟨b,0,none,rfl,?_⟩,hU3.ext hE2 hw (by omega)⟩);refine ZAk hU3.at' ?_;rw[ZAv];simp[hi]
 ·exact absurd (by decide) h3
theorem ZQb (l:List UInt8)(h:Heap)(hlen:l.length<1000000) :
  Sv Tryz.prog 125 [str l,str [45]] h (RetP fun v h'=>∃a cap,v=.slice a (ZAl l).length cap/\ZNF h' a (ZAl l)/\Ext h h'):=by
 refine ZAG Tryz.func125 rfl (by rw[Tryz.ntmps125];rfl) ?_;show Wc Tryz.prog ⟨125,8,none⟩ _ _ _ _ _;refine zz ?_;refine ZAI rfl rfl rfl rfl rfl Bod.h rfl rfl (ZMC l h hlen) ?_;rintro _ h1 ⟨a,cap,rfl,h2,h3⟩;refine zz ?_;exact ZAE (ZAF rfl ⟨a,cap,rfl,h2,h3⟩)
theorem ZI0 {a:Option Addr}{cap:Nat}{l:List (List UInt8)}{h:Heap}{g:FuncId}{first capv:List Value}{p:List UInt8->Bool}(hI:ZNF h a l)(hbd:ZBF Tryz.prog g=true)
  (hp:∀h1,Ext h h1->∀x∈l,Sv Tryz.prog g (first++([str x]++capv)) h1 (RetP fun v h'=>v=.bool (p x)/\Ext h1 h')) (hlen:l.length<9223372036854775808) :
  Sv Tryz.prog 172 [.slice a l.length cap,.func (.func g) ⟨first⟩ ⟨capv⟩] h (RetP fun v h'=>v=i64 (ZJ9 p l)/\Ext h h'):=by
 refine ZAG Tryz.func172 rfl (by rw[Tryz.ntmps172];rfl) ?_;show Wc Tryz.prog ⟨172,19,none⟩ _ _ _ _ _;refine zz ?_
 refine ZAQ (fun (k:Nat) m ds h'=>ds=[]/\Ext h h'/\k<=l.length/\(∀j (hj:j<l.length),j<k->p l[j]=false)/\AllK m [(0,.slice a l.length cap),(1,.func (.func g) ⟨first⟩ ⟨capv⟩),(7,i64 l.length),(8,i64 k)])
  (fun k=>l.length-k) 0 ?_ ?_
 ·exact⟨rfl,Ext.refl _,Nat.zero_le _,(fun _ _ hj=>by omega),rfl,rfl,rfl,rfl,trivial⟩
 rintro k m ds h' ⟨rfl,hE,hk,hno,hall⟩;refine Wc.le ?_ (Le.kn hall);refine zz ?_;refine ZAN rfl rfl rfl rfl (ZAY rfl rfl) (fun h1=>?_) (fun h1=>?_)
 ·have hk':k<l.length:=by simpa using h1
  obtain⟨b,o,oa,rfl,hc⟩:=hI k hk';refine zz ?_;refine ZAD rfl rfl rfl rfl (A_ix Und.h Tsz.h rfl rfl) ?_;refine zz ?_;refine ZQk rfl rfl rfl rfl rfl hbd rfl rfl (hp h' hE _ (List.getElem_mem hk')) (fun hb h2 hE2=>?_) (fun hb h2 hE2=>?_)
  ·refine zz ?_
   refine ZAE (ZAF rfl ⟨?_,hE.trans hE2⟩);have:l.findIdx? p=some k:=by
    rw[List.findIdx?_eq_some_iff_getElem];exact⟨hk',hb,fun j hj=>by simp[hno j (by omega) hj]⟩
   simp[ZJ9,this];rfl
  ·refine zz ?_
   refine⟨k+1,?_,rfl,hE.trans hE2,hk',?_,rfl,rfl,rfl,rfl,trivial⟩
   ·show l.length-(k+1)<l.length-k;omega
   ·intro j hj hlt
    rcases Nat.lt_or_ge j k with g|g
    ·exact hno j hj g
    ·have:j=k:=by omega
     subst this;exact hb
 ·have hk2:k=l.length:=by omega
  subst hk2;refine zz ?_;refine ZAE (ZAF rfl ⟨?_,hE⟩);have:l.findIdx? p=none:=by
   rw[List.findIdx?_eq_none_iff];intro x hx;obtain⟨j,hj,rfl⟩:=List.getElem_of_mem hx;exact hno j hj hj
  simp[ZJ9,this];rfl
theorem ZGj {a:Option Addr}{cap:Nat}{l:List (List UInt8)}{h:Heap}{g:FuncId}{first capv:List Value}{p:List UInt8->Bool}(hI:ZNF h a l)(hbd:ZBF Tryz.prog g=true)
  (hp:∀h1,Ext h h1->∀x∈l,Sv Tryz.prog g (first++([str x]++capv)) h1 (RetP fun v h'=>v=.bool (p x)/\Ext h1 h')) (hlen:l.length<9223372036854775808) :
  Sv Tryz.prog 124 [.slice a l.length cap,.func (.func g) ⟨first⟩ ⟨capv⟩] h (RetP fun v h'=>v=.bool (l.any p)/\Ext h h'):=by
 refine ZAG Tryz.func124 rfl (by rw[Tryz.ntmps124];rfl) ?_;show Wc Tryz.prog ⟨124,9,none⟩ _ _ _ _ _;refine zz ?_;refine ZAV rfl rfl rfl rfl rfl Bod.h rfl rfl (ZI0 hI hbd hp hlen) fun h1 hE1=>?_;refine zz ?_;refine ZAN rfl rfl rfl rfl (ZFF rfl rfl) (fun hb=>?_) (fun hb=>?_)
 ·refine zz ?_
  exact ZAE (ZAF rfl ⟨by rw[<-ZIb,decide_eq_true hb];rfl,hE1⟩)
 ·refine zz ?_
  exact ZAE (ZAF rfl ⟨by rw[<-ZIb,decide_eq_false hb];rfl,hE1⟩)
theorem ZNU:∀{l p:List UInt8},p∈ZAl l->p.length<=l.length:=by
 intro l
 induction l with
 | nil=>intro p hp;simp[ZAl] at hp;simp[hp]
 | cons x l ih =>
  intro p hp;unfold ZAl at hp
  split at hp
  ·rcases List.mem_cons.1 hp with rfl|g
   ·simp
   ·have:=ih g;simp;omega
  ·split at hp
   ·rename_i hq;exact absurd hq (ZHe l)
   ·rename_i q qs hq
    rcases List.mem_cons.1 hp with rfl|g
    ·have:=ih (p:=q) (by rw[hq];exact List.mem_cons_self);simpa using this
    ·have:=ih (p:=p) (by rw[hq];exact List.mem_cons_of_mem _ g);simp;omega
def letB (c:UInt8):Bool:=decide (97<=c.toNat/\c.toNat<=122)
def fstL:List UInt8->Bool
 | []=>false
 | c::_=>letB c
def digB (c:UInt8):Bool:=decide (48<=c.toNat/\c.toNat<=57)
def ZAu (l:List UInt8):Bool:=decide (1<=l.length/\l.length<=24) && fstL l && (ZAl l).all fun p=>!(decide (p=[]) || !p.all al)
theorem ZB3 (l:List UInt8)(h:Heap)(hlen:l.length<9223372036854775808):Sv Tryz.prog 77 [str l] h (RetP fun v h'=>v=.bool (ZAu l)/\Ext h h'):=by
 refine ZAG Tryz.func77 rfl (by rw[Tryz.ntmps77];rfl) ?_;show Wc Tryz.prog ⟨77,16,none⟩ _ _ _ _ _;refine zz ?_;refine ZCP rfl rfl rfl rfl rfl Bod.h rfl rfl (ZIW _ _ _ _) (fun h1=>?_) (fun h1=>?_)
 ·refine zz ?_
  refine ZAE (ZAF rfl ⟨?_,Ext.refl _⟩);have:¬(1<=l.length/\l.length<=24):=by have:=of_decide_eq_true h1;omega
  simp only[ZAu,decide_eq_false this,Bool.false_and];rfl
 have h1':1<=l.length/\l.length<=24:=by have:=of_decide_eq_false h1;omega
 obtain⟨c,r,rfl⟩:∃c r,l=c::r:=by
  cases l with
  | nil=>simp at h1'
  | cons c r=>exact⟨c,r,rfl⟩
 refine zz ?_;refine ZAD rfl rfl rfl rfl (ZAa (k:=0) Und.h rfl rfl rfl (by simp)) ?_;refine ZAD rfl rfl rfl rfl (ZOX Und.h Und.h rfl) ?_;refine ZCP rfl rfl rfl rfl rfl Bod.h rfl rfl (ZIW _ _ _ _) (fun h2=>?_) (fun h2=>?_)
 ·refine zz ?_
  refine ZAE (ZAF rfl ⟨?_,Ext.refl _⟩);have h2':=of_decide_eq_true h2;have:letB c=false:=decide_eq_false (by simp at h2';omega);simp only[ZAu,fstL,this,Bool.and_false,Bool.false_and];rfl
 have hlet:letB c=true:=decide_eq_true (by have:=of_decide_eq_false h2;simp at this;omega);refine zz ?_;refine ZAI rfl rfl rfl rfl rfl Bod.h rfl rfl (ZQb _ _ (by omega)) ?_;rintro _ h3 ⟨a,cap,rfl,hst,hE3⟩;have hpl:∀p∈ZAl (c::r),p.length<9223372036854775808:=by
  intro p hp;have:=ZNU hp;omega
 refine ZAI rfl rfl rfl rfl rfl Bod.h rfl rfl (ZGj (first:=[]) (capv:=[]) (p:=fun p=>decide (p=[]) || !p.all al) hst Bod.h (fun h1 _ x hx=>ZQ0 x h1 (hpl x hx)) (by rw[ZIh];have:=List.count_le_length (a:=dash) (l:=c::r);omega)) ?_;rintro _ h4 ⟨rfl,hE4⟩;refine zz ?_;refine ZAE (ZAF rfl ⟨?_,hE3.trans hE4⟩);have:ZAu (c::r)=!(ZAl (c::r)).any fun p=>decide (p=[]) || !p.all al:=by
  simp only[ZAu,fstL,decide_eq_true h1',hlet,Bool.true_and];rw[List.all_eq_not_any_not];simp
 rw[this];rfl
theorem ZKp (c:UInt8)(h:Heap):Sv Tryz.prog 129 [byt c] h (RetP fun v h'=>v=.bool (letB c)/\h'=h):=by
 refine ZAG Tryz.func129 rfl (by rw[Tryz.ntmps129];rfl) ?_;show Wc Tryz.prog ⟨129,9,none⟩ _ _ _ _ _;refine zz ?_;refine ZAN rfl rfl rfl rfl (ZFF rfl rfl) (fun h1=>?_) (fun h1=>?_)
 ·refine zz ?_
  refine ZAN rfl rfl rfl rfl (ZGe rfl rfl) (fun h2=>?_) (fun h2=>?_)
  ·refine zz ?_
   exact ZAE (ZAF rfl ⟨by rw[letB,decide_eq_true (by omega)];rfl,rfl⟩)
  ·refine zz ?_
   exact ZAE (ZAF rfl ⟨by rw[letB,decide_eq_false (by omega)];rfl,rfl⟩)
 ·refine zz ?_
  exact ZAE (ZAF rfl ⟨by rw[letB,decide_eq_false (by omega)];rfl,rfl⟩)
def okAt (l:List UInt8)(i:Nat):Bool:=match l[i]? with
 | none=>true
 | some c=>letB c || digB c || (decide (c=dash) && !(decide (l[i-1]?=some dash)) && !decide (i+1=l.length))
def ZH4 (l:List UInt8):Bool:=decide (1<=l.length/\l.length<=24) && fstL l && (List.range l.length).all (okAt l)
theorem ZKb {a b:UInt8}:(a.toNat:Int)=(b.toNat:Int) ↔ a=b:=by
 constructor
 ·intro h;exact UInt8.toNat_inj.1 (by omega)
 ·rintro rfl;rfl
theorem ZCV (l:List UInt8)(h:Heap)(hlen:l.length<9223372036854775808):Sv Tryz.prog 81 [str l] h (RetP fun v h'=>v=.bool (ZH4 l)/\h'=h):=by
 refine ZAG Tryz.func81 rfl (by rw[Tryz.ntmps81];rfl) ?_;show Wc Tryz.prog ⟨81,54,none⟩ _ _ _ _ _;refine zz ?_;refine ZCP rfl rfl rfl rfl rfl Bod.h rfl rfl (ZTG _ _ _ _) (fun h1=>?_) (fun h1=>?_);rotate_left
 ·refine zz ?_
  refine ZAE (ZAF rfl ⟨?_,rfl⟩);have:¬(1<=l.length/\l.length<=24):=by have:=of_decide_eq_false h1;omega
  simp only[ZH4,decide_eq_false this,Bool.false_and];rfl
 have h1':1<=l.length/\l.length<=24:=by have:=of_decide_eq_true h1;omega
 obtain⟨c,r,hcr⟩:∃c r,l=c::r:=by
  cases l with
  | nil=>simp at h1'
  | cons c r=>exact⟨c,r,rfl⟩
 have h0:0<l.length:=by omega
 have hc0:l[0]=c:=by simp[hcr]
 refine zz ?_;refine ZAD rfl rfl rfl rfl (ZAa (k:=0) Und.h rfl rfl rfl h0) ?_;refine ZCP rfl rfl rfl rfl rfl Bod.h rfl rfl (ZKp _ _) (fun h2=>?_) (fun h2=>?_);rotate_left
 ·refine zz ?_
  refine ZAE (ZAF rfl ⟨?_,rfl⟩);rw[hc0] at h2;have:ZH4 l=false:=by simp only[ZH4,fstL,hcr,h2,Bool.and_false,Bool.false_and]
  rw[this];rfl
 rw[hc0] at h2;have hname:ZH4 l=(List.range l.length).all (okAt l):=by
  have:fstL l=true:=by rw[hcr];exact h2
  simp only[ZH4,decide_eq_true h1',this,Bool.true_and]
 refine zz ?_;refine ZAQ (fun (k:Nat) m ds h'=>ds=[]/\h'=h/\k<=l.length/\(∀j,j<k->okAt l j=true)/\AllK m [(0,str l),(3,i64 k)]) (fun k=>l.length-k) 0 ?_ ?_
 ·exact⟨rfl,rfl,Nat.zero_le _,(fun _ hj=>by omega),rfl,rfl,trivial⟩
 rintro k m ds h' ⟨rfl,rfl,hk,hok,hall⟩
 have hbad:k<l.length->okAt l k=false->ZH4 l=false:=fun hlt hb=>by
  rw[hname,List.all_eq_false];exact⟨k,List.mem_range.2 hlt,by rw[hb];simp⟩
 refine Wc.le ?_ (Le.kn hall);refine zz ?_;refine ZAN rfl rfl rfl rfl (ZAY rfl rfl) (fun h3=>?_) (fun h3=>?_)
 ·have hk':k<l.length:=by simpa using h3
  have hget:l[k]?=some l[k]:=List.getElem?_eq_getElem hk';have next:∀m',okAt l k=true->AllK m' [(0,str l),(3,i64 k)]->∀j,j<k+1->okAt l j=true:=by
   intro _ hb _ j hj
   rcases Nat.lt_or_ge j k with g|g
   ·exact hok j g
   ·have:j=k:=by omega
    subst this;exact hb
  refine zz ?_;refine ZAD rfl rfl rfl rfl (ZAa (k:=k) Und.h rfl rfl rfl hk') ?_;refine ZCP rfl rfl rfl rfl rfl Bod.h rfl rfl (ZKp _ _) (fun h4=>?_) (fun h4=>?_)
  ·refine zz ?_
   refine⟨k+1,?_,rfl,rfl,hk',next _ (by simp[okAt,hget,h4]) hall,rfl,rfl,trivial⟩
   show l.length-(k+1)<l.length-k;omega
  refine zz ?_;refine ZAD rfl rfl rfl rfl (ZAa (k:=k) Und.h rfl rfl rfl hk') ?_;have third:digB l[k]=false->∀{m':Mem} {Q':CQ},True:=fun _ _ _=>trivial;refine ZAN rfl rfl rfl rfl (ZFF rfl rfl) (fun h5=>?_) (fun h5=>?_)
  ·refine zz ?_
   refine ZAD rfl rfl rfl rfl (ZAa (k:=k) Und.h rfl rfl rfl hk') ?_;refine ZAN rfl rfl rfl rfl (ZGe rfl rfl) (fun h6=>?_) (fun h6=>?_)
   ·refine zz ?_
    refine⟨k+1,?_,rfl,rfl,hk',next _ ?_ hall,rfl,rfl,trivial⟩
    ·show l.length-(k+1)<l.length-k;omega
    ·have:digB l[k]=true:=decide_eq_true (by omega)
     simp[okAt,hget,this]
   ·have hdig:digB l[k]=false:=decide_eq_false (by omega)
    refine zz ?_;refine ZAD rfl rfl rfl rfl (ZAa (k:=k) Und.h rfl rfl rfl hk') ?_;refine ZAN rfl rfl rfl rfl (ZA3 rfl rfl) (fun h7=>?_) (fun h7=>?_)
    ·refine zz ?_
     refine ZAE (ZAF rfl ⟨?_,rfl⟩);have hd:¬l[k]=dash:=fun e=>h7 (by rw[e];rfl);rw[hbad hk' (by simp[okAt,hget,h4,hdig,hd])];rfl
    have hd:l[k]=dash:=by
     have:=Classical.not_not.1 h7;exact ZKb.1 this
    have hk0:k≠0:=fun e=>by
     subst e;rw[hc0] at h4;rw[h4] at h2;cases h2
    refine zz ?_;refine ZAD rfl rfl rfl rfl (ZAa (k:=k-1) Und.h rfl rfl (by omega) (by omega)) ?_;have hget1:l[k-1]?=some l[k-1]:=List.getElem?_eq_getElem (by omega);refine ZAN rfl rfl rfl rfl (ZAh rfl rfl) (fun h8=>?_) (fun h8=>?_)
    ·refine zz ?_
     refine ZAE (ZAF rfl ⟨?_,rfl⟩);have hd1:l[k-1]=dash:=ZKb.1 h8;rw[hbad hk' (by simp[okAt,hget,hget1,hd,hd1,show letB dash=false by decide,show digB dash=false by decide])];rfl
    have hd1:¬l[k-1]=dash:=fun e=>h8 (by rw[e];rfl);refine zz ?_;refine ZAN rfl rfl rfl rfl (ZAh rfl rfl) (fun h9=>?_) (fun h9=>?_)
    ·refine zz ?_
     refine ZAE (ZAF rfl ⟨?_,rfl⟩);have he:k+1=l.length:=by omega
     rw[hbad hk' (by simp[okAt,hget,hget1,hd,hd1,show letB dash=false by decide,show digB dash=false by decide,he])];rfl
    ·refine zz ?_
     have he:¬k+1=l.length:=by omega
     refine⟨k+1,?_,rfl,rfl,hk',next _ (by simp[okAt,hget,hget1,hd,hd1,show letB dash=false by decide,show digB dash=false by decide,he]) hall,rfl,rfl,trivial⟩
     show l.length-(k+1)<l.length-k;omega
  ·have hdig:digB l[k]=false:=decide_eq_false (by omega)
   refine zz ?_;refine ZAD rfl rfl rfl rfl (ZAa (k:=k) Und.h rfl rfl rfl hk') ?_;refine ZAN rfl rfl rfl rfl (ZA3 rfl rfl) (fun h7=>?_) (fun h7=>?_)
   ·refine zz ?_
    refine ZAE (ZAF rfl ⟨?_,rfl⟩);have hd:¬l[k]=dash:=fun e=>h7 (by rw[e];rfl);rw[hbad hk' (by simp[okAt,hget,h4,hdig,hd])];rfl
   have hd:l[k]=dash:=by
    have:=Classical.not_not.1 h7;exact ZKb.1 this
   have hk0:k≠0:=fun e=>by
    subst e;rw[hc0] at h4;rw[h4] at h2;cases h2
   refine zz ?_;refine ZAD rfl rfl rfl rfl (ZAa (k:=k-1) Und.h rfl rfl (by omega) (by omega)) ?_;have hget1:l[k-1]?=some l[k-1]:=List.getElem?_eq_getElem (by omega);refine ZAN rfl rfl rfl rfl (ZAh rfl rfl) (fun h8=>?_) (fun h8=>?_)
   ·refine zz ?_
    refine ZAE (ZAF rfl ⟨?_,rfl⟩);have hd1:l[k-1]=dash:=ZKb.1 h8;rw[hbad hk' (by simp[okAt,hget,hget1,hd,hd1,show letB dash=false by decide,show digB dash=false by decide])];rfl
   have hd1:¬l[k-1]=dash:=fun e=>h8 (by rw[e];rfl);refine zz ?_;refine ZAN rfl rfl rfl rfl (ZAh rfl rfl) (fun h9=>?_) (fun h9=>?_)
   ·refine zz ?_
    refine ZAE (ZAF rfl ⟨?_,rfl⟩);have he:k+1=l.length:=by omega
    rw[hbad hk' (by simp[okAt,hget,hget1,hd,hd1,show letB dash=false by decide,show digB dash=false by decide,he])];rfl
   ·refine zz ?_
    have he:¬k+1=l.length:=by omega
    refine⟨k+1,?_,rfl,rfl,hk',next _ (by simp[okAt,hget,hget1,hd,hd1,show letB dash=false by decide,show digB dash=false by decide,he]) hall,rfl,rfl,trivial⟩
    show l.length-(k+1)<l.length-k;omega
 ·refine zz ?_
  refine ZAE (ZAF rfl ⟨?_,rfl⟩);have:ZH4 l=true:=by
   rw[hname,List.all_eq_true];intro j hj;exact hok j (by have:=List.mem_range.1 hj;omega)
  rw[this];rfl
end Go.Dw
