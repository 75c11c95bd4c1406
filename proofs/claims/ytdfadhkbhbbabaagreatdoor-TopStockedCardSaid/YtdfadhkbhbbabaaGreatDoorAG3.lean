/- C1: contracts of small functions of chapter 04. -/
import Derived.Test.YtdfadhkbhbbabaaGreatDoorAG2
import Derived.Test.YtdfadhkbhbbabaaGreatDoorATy
set_option linter.unusedVariables false
set_option linter.unusedSimpArgs false
namespace Go.Dw
open Go Go.Dx Go.Proofs
set_option maxRecDepth 100000
theorem ZIr (a lo hi:Int)(h:Heap):Sv Tryz.prog 63 [i64 a,i64 lo,i64 hi] h (RetP fun v h'=>v=.bool (decide (a<lo\/hi<a))/\h'=h):=by
 refine ZAG Tryz.func63 rfl (by rw[Tryz.ntmps63];rfl) ?_;show Wc Tryz.prog ⟨63,15,none⟩ _ _ _ _ _;refine zz ?_;refine ZAx rfl rfl rfl rfl (ZAU rfl rfl) (fun h1=>?_) (fun h1=>?_)
 ·refine zz ?_
  exact ZAC (ZAD rfl ⟨by rw[decide_eq_true (.inl h1)];rfl,rfl⟩)
 ·refine zz ?_
  refine ZAx rfl rfl rfl rfl (ZA4 rfl rfl) (fun h2=>?_) (fun h2=>?_)
  ·refine zz ?_
   exact ZAC (ZAD rfl ⟨by rw[decide_eq_true (.inr h2)];rfl,rfl⟩)
  ·refine zz ?_
   exact ZAC (ZAD rfl ⟨by rw[decide_eq_false (not_or.2 ⟨h1,h2⟩)];rfl,rfl⟩)
theorem ZUk (a lo hi:Int)(h:Heap):Sv Tryz.prog 69 [i64 a,i64 lo,i64 hi] h (RetP fun v h'=>v=.bool (decide (lo<=a/\a<=hi))/\h'=h):=by
 refine ZAG Tryz.func69 rfl (by rw[Tryz.ntmps69];rfl) ?_;show Wc Tryz.prog ⟨69,15,none⟩ _ _ _ _ _;refine zz ?_;refine ZAx rfl rfl rfl rfl (ZFD rfl rfl) (fun h1=>?_) (fun h1=>?_)
 ·refine zz ?_
  refine ZAx rfl rfl rfl rfl (ZEL rfl rfl) (fun h2=>?_) (fun h2=>?_)
  ·refine zz ?_
   exact ZAC (ZAD rfl ⟨by rw[decide_eq_true ⟨h1,h2⟩];rfl,rfl⟩)
  ·refine zz ?_
   exact ZAC (ZAD rfl ⟨by rw[decide_eq_false (fun x=>h2 x.2)];rfl,rfl⟩)
 ·refine zz ?_
  exact ZAC (ZAD rfl ⟨by rw[decide_eq_false (fun x=>h1 x.1)];rfl,rfl⟩)
def ZKa {α:Type}(p:α->Bool)(l:List α):Int:=match l.findIdx? p with
 | some i=>i
 | none=>-1
theorem ZIm {α:Type}(p:α->Bool)(l:List α):decide (0<=ZKa p l)=l.any p:=by
 unfold ZKa
 cases hq:l.findIdx? p with
 | none =>
  rw[List.findIdx?_eq_none_iff] at hq
  symm
  simp only[show ¬((0:Int) <= -1) by decide,decide_false];rw[List.any_eq_false];intro x hx;rw[hq x hx];simp
 | some i =>
  rw[List.findIdx?_eq_some_iff_getElem] at hq;obtain⟨h1,h2,_⟩:=hq;simp;exact⟨_,List.getElem_mem h1,h2⟩
def alN (n:Nat):Bool:=(decide (97<=n) && decide (n<=122)) || (decide (48<=n) && decide (n<=57))
def al (c:UInt8):Bool:=alN c.toNat
def tabC:List Value:=(List.range 256).map fun i=>.bool (alN i)
def ZE0:List UInt8:=[97,98,99,100,101,102,103,104,105,106,107,108,109,110,111,112,113,114,115,116,117,118,119,120,121,122,48,49,50,51,52,53,54,55,56,57]
def tabJ (l:List UInt8):List Value:=l.foldl (fun cs c=>cs.set c.toNat (Value.bool true)) (List.replicate 256 (Value.bool false))
theorem ZQe:∀(l:List UInt8)(cs:List Value),(l.foldl (fun cs c=>cs.set c.toNat (Value.bool true)) cs).length=cs.length
 | [],_=>rfl
 | c::l,cs=>by rw[List.foldl_cons,ZQe l,List.length_set]
theorem ZTI (l:List UInt8):(tabJ l).length=256:=by
 unfold tabJ;rw[ZQe];exact List.length_replicate
theorem ZQl (l:List UInt8)(c:UInt8):tabJ (l++[c])=(tabJ l).set c.toNat (.bool true):=by
 unfold tabJ;rw[List.foldl_append];rfl
theorem ZRX:tabJ ZE0=tabC:=by kernel_rfl
theorem ZRY:∀c∈ZE0,c.toNat<128:=by decide
set_option maxHeartbeats 1000000 in
theorem ZUj (h:Heap):Sv Tryz.prog 114 [str ZE0] h (RetP fun v h'=>v=.tuple ⟨[.agg ⟨tabC⟩,.bool true]⟩/\Ext h h'):=by
 refine ZA5 fun hw=>?_;have hal:ZE0.length=36:=rfl;refine ZAG Tryz.func114 rfl (by rw[Tryz.ntmps114];rfl) ?_;show Wc Tryz.prog ⟨114,21,none⟩ _ _ _ _ _;refine zz ?_;refine ZA2 rfl rfl Zr.h fun h1 hE1 hW1 hg1 hn1=>?_;have hb0:h.nx<=h.nx:=Nat.le_refl _;obtain⟨b,hb⟩:∃b,b=h.nx:=⟨_,rfl⟩;rw[<-hb] at hg1 ⊢;have hg0:h1.get b=some (.cells (tabJ []) 185 false):=by rw[hg1];kernel_rfl
 clear hg1;refine zz ?_;refine ZAN (fun (j:Nat) m ds h'=>ds=[]/\Ext h h'/\j<=36/\h'.get b=some (.cells (tabJ (ZE0.take j)) 185 false)/\AllK m [(0,str ZE0),(2,.pointer (some ⟨b,0,none⟩)),(4,i64 (j:Nat))]) (fun j=>36-j) 0 ?_ ?_
 ·exact⟨rfl,hE1,Nat.zero_le _,hg0,rfl,rfl,rfl,trivial⟩
 clear hg0 hE1 hW1;rintro j m ds h2 ⟨rfl,hE2,hj,hg2,hall⟩;refine Wc.le ?_ (Le.kn hall);clear hall;refine zz ?_;refine ZAx rfl rfl rfl rfl (ZAU rfl rfl) (fun hjl=>?_) (fun hjl=>?_);rotate_left
 ·have:j=36:=by rw[hal] at hjl;omega
  subst this;rw[show ZE0.take 36=ZE0 from rfl,ZRX] at hg2;refine zz ?_;refine ZAf (r:=tabC) rfl Tsz.h rfl rfl hg2 (by kernel_rfl) (by kernel_rfl) (by kernel_rfl) fun h3 hU=>?_;have hE3:=hU.ext hE2 hw (by omega);have hg3:=hU.at';refine zz ?_;exact ZAC (ZAD (vs:=[.agg ⟨tabC⟩,.bool true]) (ZBT rfl (ZBp RowC.h (ZAP hg3 (by kernel_rfl))) (ZRl rfl rfl)) ⟨rfl,hE3⟩)
 have hj':j<ZE0.length:=by omega
 have htk:tabJ (ZE0.take (j+1))=(tabJ (ZE0.take j)).set ZE0[j].toNat (.bool true):=by
  rw[List.take_add_one,List.getElem?_eq_getElem hj',Option.toList_some,ZQl]
 have hc:=ZRY _ (List.getElem_mem hj');have hl:=ZTI (ZE0.take j);refine zz ?_;refine ZAV rfl rfl rfl rfl (ZAc (k:=j) Und.h rfl rfl (by omega) (by omega)) ?_;generalize ZE0[j]=c at *;refine zz ?_;refine ZAV rfl rfl rfl rfl (A_ff (by omega) (ZFD rfl rfl)) ?_;refine zz ?_;refine ZAV rfl rfl rfl rfl (ZIz (k:=c.toNat) Und.h Tsz.h rfl rfl rfl (by omega)) ?_;refine ZAf rfl Tsz.h rfl rfl hg2 rfl rfl (ZCH (by omega)) fun h3 hU=>?_;have hE3:=hU.ext hE2 hw (by omega);have hg3:=hU.at';refine zz ?_;refine⟨j+1,(by show 36-(j+1)<36-j;omega),rfl,hE3,by omega,?_,rfl,rfl,rfl,trivial⟩;rw[hg3,htk];simp
theorem ZS4 (c:UInt8):nth tabC c.toNat=some (.bool (al c)):=by
 have:=c.toNat_lt;rw[ZAv];simp[tabC,al,this]
theorem ZHw (b:Nat)(c:UInt8)(h:Heap)(t:TypeId)(op:Bool)(hg:h.get b=some (.cells tabC t op)):Sv Tryz.prog 154 [.pointer (some ⟨b,0,none⟩),byt c] h (RetP fun v h'=>v=.bool (al c)/\h'=h):=by
 refine ZAG Tryz.func154 rfl (by rw[Tryz.ntmps154];rfl) ?_;show Wc Tryz.prog ⟨154,10,none⟩ _ _ _ _ _;have hlt:=c.toNat_lt;have hc:ZAS h b (0+c.toNat*1)=some (.bool (al c)):=ZAb hg (by rw[Nat.zero_add,Nat.mul_one];exact ZS4 c);refine zz ?_;refine ZAV rfl rfl rfl rfl (ZDZ rfl) ?_;refine ZAV rfl rfl rfl rfl (ZIz (k:=c.toNat) Und.h Tsz.h rfl rfl rfl hlt) ?_;refine zz ?_;exact ZAC (ZAD rfl ⟨rfl,rfl⟩)
def ZGX (l:List UInt8):List UInt8:=(l.reverse.dropWhile al).reverse
def ZKL (l:List UInt8):List UInt8:=l.dropWhile al
theorem ZIq (l:List UInt8)(c:UInt8):ZGX (l++[c])=if al c then ZGX l else l++[c]:=by
 unfold ZGX;simp only[List.reverse_append,List.reverse_cons,List.reverse_nil,List.nil_append,List.singleton_append,List.dropWhile_cons]
 split <;> simp
theorem ZNa (l:List UInt8):ZKL (ZGX l)=[] ↔ l.all al=true:=by
 have hdw:∀(r:List UInt8),r.dropWhile al=[] ↔ ∀x∈r,al x=true:=by
  intro r
  induction r with
  | nil=>simp
  | cons x r ih =>
   rw[List.dropWhile_cons];cases hx:al x
   ·simp[hx]
   ·simp[hx,ih]
 unfold ZKL ZGX;rw[hdw]
 constructor
 ·intro h
  rw[List.all_eq_true];intro x hx;have h1:l.reverse=l.reverse.takeWhile al++l.reverse.dropWhile al:=(List.takeWhile_append_dropWhile).symm;have hx':x∈l.reverse:=List.mem_reverse.2 hx;rw[h1] at hx'
  rcases List.mem_append.1 hx' with g|g
  ·exact List.all_eq_true.1 (List.all_takeWhile (p:=al)) x g
  ·exact h x (List.mem_reverse.2 g)
 ·intro h x hx
  have:x∈l.reverse:=List.dropWhile_sublist _ |>.mem (List.mem_reverse.1 hx);exact List.all_eq_true.1 h x (List.mem_reverse.1 this)
theorem ZLI (b:Nat)(l:List UInt8)(h:Heap)(t:TypeId)(op:Bool)(hg:h.get b=some (.cells tabC t op))(hlen:l.length<9223372036854775808):Sv Tryz.prog 116 [str l,.pointer (some ⟨b,0,none⟩)] h (RetP fun v h'=>v=str (ZGX l)/\h'=h):=by
 refine ZAG Tryz.func116 rfl (by rw[Tryz.ntmps116];rfl) ?_;show Wc Tryz.prog ⟨116,22,none⟩ _ _ _ _ _;refine zz ?_;refine ZAN (fun (s:List UInt8) m ds h'=>ds=[]/\h'=h/\s.length<=l.length/\ZGX s=ZGX l/\AllK m [(0,str s),(1,.pointer (some ⟨b,0,none⟩))]) (fun s=>s.length) l ?_ ?_
 ·exact⟨rfl,rfl,Nat.le_refl _,rfl,rfl,rfl,trivial⟩
 rintro s m ds h' ⟨rfl,rfl,hle,htr,hall⟩;refine Wc.le ?_ (Le.kn hall);refine zz ?_;refine ZAx rfl rfl rfl rfl (ZA4 rfl rfl) (fun h1=>?_) (fun h1=>?_)
 ·have hpos:0<s.length:=by simpa using h1
  have hs:s=s.take (s.length-1)++[s[s.length-1]]:=by
   conv=>lhs;rw[<-List.dropLast_concat_getLast (List.ne_nil_of_length_pos hpos)]
   rw[List.dropLast_eq_take,List.getLast_eq_getElem]
  refine zz ?_;refine ZAV rfl rfl rfl rfl (ZAc (k:=s.length-1) Und.h rfl rfl (by omega) (by omega)) ?_;refine ZDo rfl rfl rfl rfl rfl Bod.h rfl rfl (ZHw b _ _ t op hg) (fun hb=>?_) (fun hb=>?_)
  ·refine zz ?_
   refine ZAV rfl rfl rfl rfl (ZFs (k:=s.length-1) Und.h rfl rfl (by omega) (by omega)) ?_;refine zz ?_;refine⟨s.take (s.length-1),?_,rfl,rfl,?_,?_,rfl,rfl,trivial⟩
   ·simp;omega
   ·simp;omega
   ·rw[<-htr]
    conv=>rhs;rw[hs]
    rw[ZIq,if_pos hb]
  ·refine zz ?_
   refine ZAC (ZAD rfl ⟨?_,rfl⟩);have:ZGX s=s:=by
    conv=>lhs;rw[hs]
    rw[ZIq,hb,if_neg (by simp)];exact hs.symm
   rw[<-htr,this];rfl
 ·have h0:s=[]:=by
   cases s with
   | nil=>rfl
   | cons x s=>exfalso;apply h1;simp
  subst h0;refine zz ?_;refine ZAC (ZAD rfl ⟨?_,rfl⟩);rw[<-htr];rfl
theorem ZNG (b:Nat)(l:List UInt8)(h:Heap)(t:TypeId)(op:Bool)(hg:h.get b=some (.cells tabC t op))(hlen:l.length<9223372036854775808):Sv Tryz.prog 115 [str l,.pointer (some ⟨b,0,none⟩)] h (RetP fun v h'=>v=str (ZKL l)/\h'=h):=by
 refine ZAG Tryz.func115 rfl (by rw[Tryz.ntmps115];rfl) ?_;show Wc Tryz.prog ⟨115,16,none⟩ _ _ _ _ _;refine zz ?_;refine ZAN (fun (s:List UInt8) m ds h'=>ds=[]/\h'=h/\s.length<=l.length/\ZKL s=ZKL l/\AllK m [(0,str s),(1,.pointer (some ⟨b,0,none⟩))]) (fun s=>s.length) l ?_ ?_
 ·exact⟨rfl,rfl,Nat.le_refl _,rfl,rfl,rfl,trivial⟩
 rintro s m ds h' ⟨rfl,rfl,hle,htr,hall⟩;refine Wc.le ?_ (Le.kn hall);refine zz ?_;refine ZAx rfl rfl rfl rfl (ZA4 rfl rfl) (fun h1=>?_) (fun h1=>?_)
 ·have hpos:0<s.length:=by simpa using h1
  obtain⟨c,r,rfl⟩:∃c r,s=c::r:=by
   cases s with
   | nil=>simp at hpos
   | cons c r=>exact⟨c,r,rfl⟩
  refine zz ?_;refine ZAV rfl rfl rfl rfl (ZAc (k:=0) Und.h rfl rfl rfl hpos) ?_;refine ZDo rfl rfl rfl rfl rfl Bod.h rfl rfl (ZHw b _ _ t op hg) (fun hb=>?_) (fun hb=>?_)
  ·refine zz ?_
   refine ZAV rfl rfl rfl rfl (ZFg (k:=1) Und.h rfl rfl rfl (by simp)) ?_;refine zz ?_;refine⟨r,?_,rfl,rfl,?_,?_,rfl,rfl,trivial⟩
   ·simp
   ·simp at hle;omega
   ·rw[<-htr]
    have hb':al c=true:=hb;simp[ZKL,List.dropWhile_cons,hb']
  ·refine zz ?_
   refine ZAC (ZAD rfl ⟨?_,rfl⟩);have hb':al c=false:=hb;have:ZKL (c::r)=c::r:=by simp[ZKL,List.dropWhile_cons,hb']
   rw[<-htr,this];rfl
 ·have h0:s=[]:=by
   cases s with
   | nil=>rfl
   | cons x s=>exfalso;apply h1;simp
  subst h0;refine zz ?_;refine ZAC (ZAD rfl ⟨?_,rfl⟩);rw[<-htr];rfl
theorem ZT5 (l:List UInt8)(h:Heap)(hne:l≠[])(hlen:l.length<9223372036854775808):Sv Tryz.prog 67 [str l,str ZE0] h (RetP fun v h'=>v=str (ZKL (ZGX l))/\Ext h h'):=by
 refine ZA5 fun hw=>?_;refine ZAG Tryz.func67 rfl (by rw[Tryz.ntmps67];rfl) ?_;show Wc Tryz.prog ⟨67,43,none⟩ _ _ _ _ _;refine zz ?_;refine ZAx rfl rfl rfl rfl (ZBB rfl rfl) (fun h1=>?_) (fun h1=>?_)
 ·exact absurd h1 hne
 refine zz ?_;refine ZAx rfl rfl rfl rfl (ZBB rfl rfl) (fun h2=>?_) (fun h2=>?_)
 ·exact absurd h2 (by decide)
 refine zz ?_;refine ZAx rfl rfl rfl rfl (ZAg rfl rfl) (fun h3=>?_) (fun h3=>?_)
 ·exact absurd h3 (by decide)
 refine zz ?_;refine ZBv rfl rfl rfl rfl rfl Bod.h rfl rfl (ZUj h) fun h1 hE1=>?_;refine zz ?_;refine ZA2 rfl rfl Zr.h fun h2 hE2 hW2 hg2 hn2=>?_;refine ZAf (r:=tabC) rfl Tsz.h rfl rfl hg2 (by kernel_rfl) (by kernel_rfl) (by kernel_rfl) fun h3 hU3=>?_;have hE3:Ext h h3:=hU3.ext (hE1.trans hE2) hw hE1.2.1;refine zz ?_;refine ZBv rfl rfl rfl rfl rfl Bod.h rfl rfl (ZLI _ l h3 185 false hU3.at' hlen).grows fun h4 hE4=>?_;have hl4:(ZGX l).length<=l.length:=by
  unfold ZGX;have:=(List.dropWhile_sublist al (l:=l.reverse)).length_le;simp at this ⊢;exact this
 refine ZBv rfl rfl rfl rfl rfl Bod.h rfl rfl (ZNG _ (ZGX l) h4 185 false (hE4.get hU3.at') (by omega)).grows fun h5 hE5=>?_;refine zz ?_;exact ZAC (ZAD rfl ⟨rfl,(hE3.trans hE4).trans hE5⟩)
theorem ZS6 (l:List UInt8)(h:Heap)(hlen:l.length<9223372036854775808):Sv Tryz.prog 66 [str l] h (RetP fun v h'=>v=.bool (decide (l=[]) || !l.all al)/\Ext h h'):=by
 refine ZAG Tryz.func66 rfl (by rw[Tryz.ntmps66];rfl) ?_;show Wc Tryz.prog ⟨66,10,none⟩ _ _ _ _ _;refine zz ?_;refine ZAx rfl rfl rfl rfl (ZBB rfl rfl) (fun h1=>?_) (fun h1=>?_)
 ·refine zz ?_
  exact ZAC (ZAD rfl ⟨by rw[decide_eq_true h1];rfl,Ext.refl _⟩)
 ·refine zz ?_
  refine ZBv rfl rfl rfl rfl rfl Bod.h rfl rfl (ZT5 l h h1 hlen) fun h2 hE2=>?_;refine ZAx rfl rfl rfl rfl (ZA6 rfl rfl) (fun h3=>?_) (fun h3=>?_)
  ·refine zz ?_
   refine ZAC (ZAD rfl ⟨?_,hE2⟩);have:l.all al=false:=by
    cases hq:l.all al with
    | false=>rfl
    | true=>exact absurd ((ZNa l).2 hq) h3
   rw[this];simp;rfl
  ·refine zz ?_
   refine ZAC (ZAD rfl ⟨?_,hE2⟩);have:l.all al=true:=(ZNa l).1 (Classical.not_not.1 h3);rw[this,decide_eq_false h1];rfl
def dash:UInt8:=45
def ZAl:List UInt8->List (List UInt8)
 | []=>[[]]
 | x::l=>if x=dash then []::ZAl l else match ZAl l with
  | []=>[[x]]
  | p::ps=>(x::p)::ps
theorem ZHo (l:List UInt8):ZAl l≠[]:=by
 cases l with
 | nil=>simp[ZAl]
 | cons x l =>
  unfold ZAl
  split
  ·simp
  ·split <;> simp
theorem ZJD (l:List UInt8):(ZAl l).length=l.count dash+1:=by
 induction l with
 | nil=>rfl
 | cons x l ih =>
  unfold ZAl
  by_cases hx:x=dash
  ·simp[hx,ih]
  ·rw[if_neg hx,List.count_cons_of_ne hx]
   split
   ·rename_i hq;exact absurd hq (ZHo l)
   ·rename_i p ps hq;rw[hq] at ih;simpa using ih
theorem ZOs {p:List UInt8}(hp:dash ∉ p)(l:List UInt8):ZAl (p++dash::l)=p::ZAl l:=by
 induction p with
 | nil=>simp[ZAl]
 | cons x p ih =>
  simp only[List.mem_cons,not_or] at hp;rw[List.cons_append,ZAl,if_neg (fun e=>hp.1 e.symm),ih hp.2]
theorem ZNC {l:List UInt8}(h:dash ∉ l):ZAl l=[l]:=by
 induction l with
 | nil=>rfl
 | cons x l ih =>
  simp only[List.mem_cons,not_or] at h;rw[ZAl,if_neg (fun e=>h.1 e.symm),ih h.2]
theorem ZHc (l:List UInt8):(Lib.indexByte l dash = -1/\dash ∉ l)\/∃k:Nat,Lib.indexByte l dash=k/\k<l.length/\l=l.take k++dash::l.drop (k+1)/\dash ∉ l.take k:=by
 induction l with
 | nil=>exact .inl ⟨rfl,by simp⟩
 | cons x l ih =>
  unfold Lib.indexByte
  by_cases hx:x=dash
  ·refine .inr ⟨0,by simp[hx],by simp,by simp[hx],by simp⟩
  ·have hb:(x == dash)=false:=by simpa using hx
   rcases ih with ⟨h1,h2⟩|⟨k,h1,h2,h3,h4⟩
   ·exact .inl ⟨by simp[hb,h1],by simp[h2,Ne.symm hx]⟩
   ·refine .inr ⟨k+1,?_,by simpa using h2,?_,?_⟩
    ·rw[h1]
     have:((k:Int) == -1)=false:=by simp
     simp[hb,this]
    ·simp only[List.take_succ_cons,List.drop_succ_cons,List.cons_append]
     rw[<-h3]
    ·simp[h4,Ne.symm hx]
theorem ZGE {m:Mem}{h:Heap}{d:Option Tmp}{ty:TypeId}{pos:String}{af:Array Edge}{gu:Option (Nat×Bool)}{x y:Operand}{ts:Array TypeId}{l:List UInt8}{c:UInt8}(hx:opk h m x=some (str l))(hy:opk h m y=some (byt c)) :
  Aop Tryz.prog ⟨d,.call ⟨.value (.func 220),#[x,y],ts⟩,ty,pos,af,gu⟩ m h (i64 (Lib.indexByte l c)) h :=
 ZTa Tryz.func220 (by kernel_rfl) (by kernel_rfl) (by kernel_rfl) (by kernel_rfl) hx hy rfl rfl rfl fun w=>by
  rw[Lib.run_indexByteString];simp
theorem ZKR {m:Mem}{h:Heap}{d:Option Tmp}{ty:TypeId}{pos:String}{af:Array Edge}{gu:Option (Nat×Bool)}{x y:Operand}{ts:Array TypeId}{l:List UInt8}{c:UInt8}(hx:opk h m x=some (str l))(hy:opk h m y=some (byt c)) :
  Aop Tryz.prog ⟨d,.call ⟨.value (.func 183),#[x,y],ts⟩,ty,pos,af,gu⟩ m h (i64 (l.count c:Nat)) h :=
 ZTa Tryz.func183 (by kernel_rfl) (by kernel_rfl) (by kernel_rfl) (by kernel_rfl) hx hy rfl rfl rfl fun w=>by
  rw[Lib.run_countString];simp[Lib.countByte]
theorem ZRH (l:List UInt8)(c:UInt8)(h:Heap):Sv Tryz.prog 208 [str l,byt c] h (RetP fun v h'=>v=i64 (Lib.indexByte l c)/\h'=h):=by
 refine ZAG Tryz.func208 rfl (by rw[Tryz.ntmps208];rfl) ?_;show Wc Tryz.prog ⟨208,8,none⟩ _ _ _ _ _;refine zz ?_;refine ZNg (ZTR rfl (fun _ hq=>nomatch hq) (ZGE rfl rfl) ?_) rfl;refine zz ?_;exact ZAC (ZAD rfl ⟨rfl,rfl⟩)
theorem ZSp (l:List UInt8)(h:Heap):Sv Tryz.prog 153 [str l,str [45]] h (RetP fun v h'=>v=i64 (Lib.indexByte l dash)/\h'=h):=by
 have key:Sv Tryz.prog 184 [str l,str [45]] h (RetP fun v h'=>v=i64 (Lib.indexByte l dash)/\h'=h):=by
  refine ZAG Tryz.func184 rfl (by rw[Tryz.ntmps184];rfl) ?_;show Wc Tryz.prog ⟨184,143,none⟩ _ _ _ _ _;refine zz ?_;refine ZAx rfl rfl rfl rfl (ZAg rfl rfl) (fun h1=>?_) (fun h1=>?_)
  ·exact absurd h1 (by decide)
  refine zz ?_;refine ZAx rfl rfl rfl rfl (ZBB rfl rfl) (fun h2=>?_) (fun h2=>?_)
  ·refine zz ?_
   subst h2;exact ZAC (ZAD rfl ⟨rfl,rfl⟩)
  refine zz ?_;refine ZAx rfl rfl rfl rfl (ZAg rfl rfl) (fun h3=>?_) (fun h3=>?_)
  ·refine zz ?_
   refine ZAV rfl rfl rfl rfl (ZAc (k:=0) Und.h rfl rfl rfl (by decide)) ?_;refine ZBF rfl rfl rfl rfl rfl Bod.h rfl rfl (ZRH l dash h) ?_;refine zz ?_;exact ZAC (ZAD rfl ⟨rfl,rfl⟩)
  ·exact absurd rfl h3
 refine ZAG Tryz.func153 rfl (by rw[Tryz.ntmps153];rfl) ?_;show Wc Tryz.prog ⟨153,8,none⟩ _ _ _ _ _;refine zz ?_;refine ZBF rfl rfl rfl rfl rfl Bod.h rfl rfl key ?_;refine zz ?_;exact ZAC (ZAD rfl ⟨rfl,rfl⟩)
theorem ZRf (l:List UInt8)(h:Heap):Sv Tryz.prog 152 [str l,str [45]] h (RetP fun v h'=>v=i64 (l.count dash:Nat)/\h'=h):=by
 refine ZAG Tryz.func152 rfl (by rw[Tryz.ntmps152];rfl) ?_;show Wc Tryz.prog ⟨152,34,none⟩ _ _ _ _ _;refine zz ?_;refine ZAx rfl rfl rfl rfl (ZAg rfl rfl) (fun h1=>?_) (fun h1=>?_)
 ·exact absurd h1 (by decide)
 refine zz ?_;refine ZAx rfl rfl rfl rfl (ZAg rfl rfl) (fun h2=>?_) (fun h2=>?_)
 ·refine zz ?_
  refine ZAV rfl rfl rfl rfl (ZAc (k:=0) Und.h rfl rfl rfl (by decide)) ?_;refine ZNg (ZTR rfl (fun _ hq=>nomatch hq) (ZKR (c:=dash) rfl rfl) ?_) rfl;refine zz ?_;exact ZAC (ZAD rfl ⟨rfl,rfl⟩)
 ·exact absurd rfl h2
theorem ZJR (n:Nat)(z:Value):rep n [z]=List.replicate n z:=by
 induction n with
 | zero=>rfl
 | succ n ih=>rw[List.replicate_succ,<-ih];rfl
theorem ZML (l:List UInt8)(h:Heap)(hlen:l.length<1000000) :
  Sv Tryz.prog 111 [str l,str [45],i64 0,i64 (-1)] h (RetP fun v h'=>∃a cap,v=.slice a (ZAl l).length cap/\ZLb h' a (ZAl l)/\Ext h h'):=by
 have hcl:l.count dash<=l.length:=List.count_le_length;refine ZA5 fun hw=>?_;refine ZAG Tryz.func111 rfl (by rw[Tryz.ntmps111];rfl) ?_;show Wc Tryz.prog ⟨111,66,none⟩ _ _ _ _ _;refine zz ?_;refine ZAx rfl rfl rfl rfl (ZAg rfl rfl) (fun h1=>?_) (fun h1=>?_)
 ·exact absurd h1 (by decide)
 refine zz ?_;refine ZAx rfl rfl rfl rfl (ZBB rfl rfl) (fun h2=>?_) (fun h2=>?_)
 ·exact absurd h2 (by decide)
 refine zz ?_;refine ZAx rfl rfl rfl rfl (ZAU rfl rfl) (fun h3=>?_) (fun h3=>?_)
 ·refine zz ?_
  refine ZBF rfl rfl rfl rfl rfl Bod.h rfl rfl (ZRf l h) ?_;refine zz ?_;refine ZAV rfl rfl rfl rfl (ZVq rfl rfl) ?_;have hmin:min ((l.count dash:Int)+1) ((l.length:Int)+1)=(l.count dash:Int)+1:=by omega
  rw[hmin];refine zz ?_;refine ZAV rfl rfl rfl rfl (ZHm (k:=l.count dash+1) Und.h (inferInstance:Elm _ _ _ _) Zr.h rfl rfl (by simp) (by omega) (by omega)) ?_;generalize hh1:h.add _=h1;have hg1:h1.get h.nx=some (.cells (List.replicate (l.count dash+1) (str [])) 9 false):=by
   rw[<-hh1,<-ZJR];exact Heap.get_add_same
  have hE1:Ext h h1:=by rw[<-hh1];exact Ext.add hw _
  clear hh1;generalize hb:h.nx=b at *;refine zz ?_
  refine ZAN (fun (st:List (List UInt8)×List UInt8) m ds h2=>ds=[]/\Ext h h2/\st.1.length+st.2.count dash=l.count dash/\ZAl l=st.1++ZAl st.2/\st.2.length<=l.length ∧
    h2.get b=some (.cells (st.1.map str++List.replicate (l.count dash+1-st.1.length) (str [])) 9 false) ∧
    AllK m [(0,str st.2),(1,str [45]),(2,i64 0),(3,i64 (l.count dash:Nat)),(9,.slice (some ⟨b,0,none⟩) (l.count dash+1) (l.count dash+1)),(10,i64 st.1.length)])
   (fun st=>st.2.length) ([],l) ?_ ?_
  ·refine⟨rfl,hE1,by simp,rfl,Nat.le_refl _,by simpa using hg1,rfl,rfl,rfl,?_,rfl,rfl,trivial⟩
   show some (Value.int .i64 ((l.count dash:Int)+1-1))=_
   simp
  rintro⟨dn,s⟩ m ds h2 ⟨rfl,hE2,hcnt,hsp,hsl,hg2,hall⟩;simp only at hcnt hsp hsl hg2 hall;have key:∀m',AllK m' [(9,.slice (some ⟨b,0,none⟩) (l.count dash+1) (l.count dash+1)),(10,i64 dn.length),(0,str s)]->dash ∉ s->True:=fun _ _ _=>trivial;refine Wc.le ?_ (Le.kn hall);refine zz ?_;refine ZAx rfl rfl rfl rfl (ZAU rfl rfl) (fun h4=>?_) (fun h4=>?_)
  ·have hdn:dn.length<l.count dash:=by simpa using h4
   refine zz ?_;refine ZBF rfl rfl rfl rfl rfl Bod.h rfl rfl (ZSp s h2) ?_
   rcases ZHc s with ⟨g1,g2⟩|⟨k,g1,g2,g3,g4⟩
   ·exfalso
    have:=List.count_eq_zero.2 g2;omega
   rw[g1];refine zz ?_;refine ZAx rfl rfl rfl rfl (ZAU rfl rfl) (fun h5=>?_) (fun h5=>?_)
   ·exact absurd h5 (by omega)
   refine zz ?_;refine ZAV rfl rfl rfl rfl (ZFs (k:=k) Und.h rfl rfl (by omega) (by omega)) ?_;refine ZAV rfl rfl rfl rfl (ZAE (k:=dn.length) Und.h Tsz.h rfl rfl rfl (by omega)) ?_;refine ZAf (r:=(dn++[s.take k]).map str++List.replicate (l.count dash+1-(dn.length+1)) (str [])) rfl Tsz.h rfl rfl hg2 rfl rfl ?_ fun h3 hU3=>?_
   ·show lay _ (0+dn.length*1) [str (s.take k)]=_
    rw[ZCH (by simp;omega)]
    congr 1
    have:l.count dash+1-dn.length=(l.count dash+1-(dn.length+1))+1:=by omega
    rw[this,List.replicate_succ,Nat.zero_add,Nat.mul_one,List.set_append_right _ _ (by simp)];simp
   refine zz ?_;refine ZAV rfl rfl rfl rfl (ZVT rfl rfl (by simp;omega) (by simp;omega)) ?_;refine ZAV rfl rfl rfl rfl (ZFg (k:=k+1) Und.h rfl rfl (by simp) (by omega)) ?_;refine zz ?_;have hs':ZAl s=s.take k::ZAl (s.drop (k+1)):=by
    conv=>lhs;rw[g3]
    exact ZOs g4 _
   refine⟨(dn++[s.take k],s.drop (k+1)),?_,rfl,?_,?_,?_,?_,?_,rfl,rfl,rfl,rfl,rfl,?_,trivial⟩
   ·simp;omega
   ·exact hU3.ext hE2 hw (by omega)
   ·have hc:s.count dash=1+(s.drop (k+1)).count dash:=by
     conv=>lhs;rw[g3]
     rw[List.count_append,List.count_eq_zero.2 g4,List.count_cons_self];omega
    simp only[List.length_append,List.length_singleton];omega
   ·simp only[List.append_assoc,List.singleton_append];rw[hsp,hs']
   ·simp;omega
   ·rw[hU3.at'];simp
   ·show some (Value.int .i64 ((dn.length:Int)+1))=_
    simp
  ·have hdn:dn.length=l.count dash:=by omega
   have hc0:s.count dash=0:=by omega
   have hs':ZAl s=[s]:=ZNC (List.count_eq_zero.1 hc0);rw[hs'] at hsp;refine zz ?_;refine ZAV rfl rfl rfl rfl (ZAE (k:=dn.length) Und.h Tsz.h rfl rfl rfl (by omega)) ?_;refine ZAf (r:=(ZAl l).map str) rfl Tsz.h rfl rfl hg2 rfl rfl ?_ fun h3 hU3=>?_
   ·show lay _ (0+dn.length*1) [str s]=_
    rw[ZCH (by simp;omega)]
    congr 1
    have:l.count dash+1-dn.length=1:=by omega
    rw[this,Nat.zero_add,Nat.mul_one,List.set_append_right _ _ (by simp),hsp];simp
   refine zz ?_;have hsl':=ZJD l;refine ZAV rfl rfl rfl rfl (ZHa (k:=(ZAl l).length) Und.h Tsz.h rfl rfl (by rw[hsl'];omega) (by omega)) ?_;refine zz ?_;refine ZAC (ZAD rfl ⟨_,_,rfl,fun i hi=>⟨b,0,none,rfl,?_⟩,hU3.ext hE2 hw (by omega)⟩);refine ZAb hU3.at' ?_;rw[ZAv];simp[hi]
 ·exact absurd (by decide) h3
theorem ZS9 (l:List UInt8)(h:Heap)(hlen:l.length<1000000) :
  Sv Tryz.prog 65 [str l,str [45]] h (RetP fun v h'=>∃a cap,v=.slice a (ZAl l).length cap/\ZLb h' a (ZAl l)/\Ext h h'):=by
 refine ZAG Tryz.func65 rfl (by rw[Tryz.ntmps65];rfl) ?_;show Wc Tryz.prog ⟨65,8,none⟩ _ _ _ _ _;refine zz ?_;refine ZAa rfl rfl rfl rfl rfl Bod.h rfl rfl (ZML l h hlen) ?_;rintro _ h1 ⟨a,cap,rfl,h2,h3⟩;refine zz ?_;exact ZAC (ZAD rfl ⟨a,cap,rfl,h2,h3⟩)
theorem ZKT {a:Option Addr}{cap:Nat}{l:List (List UInt8)}{h:Heap}{g:FuncId}{first capv:List Value}{p:List UInt8->Bool}(hI:ZLb h a l)(hbd:ZAp Tryz.prog g=true)
  (hp:∀h1,Ext h h1->∀x∈l,Sv Tryz.prog g (first++([str x]++capv)) h1 (RetP fun v h'=>v=.bool (p x)/\Ext h1 h')) (hlen:l.length<9223372036854775808) :
  Sv Tryz.prog 110 [.slice a l.length cap,.func (.func g) ⟨first⟩ ⟨capv⟩] h (RetP fun v h'=>v=i64 (ZKa p l)/\Ext h h'):=by
 refine ZAG Tryz.func110 rfl (by rw[Tryz.ntmps110];rfl) ?_;show Wc Tryz.prog ⟨110,19,none⟩ _ _ _ _ _;refine zz ?_
 refine ZAN (fun (k:Nat) m ds h'=>ds=[]/\Ext h h'/\k<=l.length/\(∀j (hj:j<l.length),j<k->p l[j]=false)/\AllK m [(0,.slice a l.length cap),(1,.func (.func g) ⟨first⟩ ⟨capv⟩),(7,i64 l.length),(8,i64 k)])
  (fun k=>l.length-k) 0 ?_ ?_
 ·exact⟨rfl,Ext.refl _,Nat.zero_le _,(fun _ _ hj=>by omega),rfl,rfl,rfl,rfl,trivial⟩
 rintro k m ds h' ⟨rfl,hE,hk,hno,hall⟩;refine Wc.le ?_ (Le.kn hall);refine zz ?_;refine ZAx rfl rfl rfl rfl (ZAU rfl rfl) (fun h1=>?_) (fun h1=>?_)
 ·have hk':k<l.length:=by simpa using h1
  obtain⟨b,o,oa,rfl,hc⟩:=hI k hk';refine zz ?_;refine ZAV rfl rfl rfl rfl (A_ix Und.h Tsz.h rfl rfl) ?_;refine zz ?_;refine ZJM rfl rfl rfl rfl rfl hbd rfl rfl (hp h' hE _ (List.getElem_mem hk')) (fun hb h2 hE2=>?_) (fun hb h2 hE2=>?_)
  ·refine zz ?_
   refine ZAC (ZAD rfl ⟨?_,hE.trans hE2⟩);have:l.findIdx? p=some k:=by
    rw[List.findIdx?_eq_some_iff_getElem];exact⟨hk',hb,fun j hj=>by simp[hno j (by omega) hj]⟩
   simp[ZKa,this];rfl
  ·refine zz ?_
   refine⟨k+1,?_,rfl,hE.trans hE2,hk',?_,rfl,rfl,rfl,rfl,trivial⟩
   ·show l.length-(k+1)<l.length-k;omega
   ·intro j hj hlt
    rcases Nat.lt_or_ge j k with g|g
    ·exact hno j hj g
    ·have:j=k:=by omega
     subst this;exact hb
 ·have hk2:k=l.length:=by omega
  subst hk2;refine zz ?_;refine ZAC (ZAD rfl ⟨?_,hE⟩);have:l.findIdx? p=none:=by
   rw[List.findIdx?_eq_none_iff];intro x hx;obtain⟨j,hj,rfl⟩:=List.getElem_of_mem hx;exact hno j hj hj
  simp[ZKa,this];rfl
theorem ZGw {a:Option Addr}{cap:Nat}{l:List (List UInt8)}{h:Heap}{g:FuncId}{first capv:List Value}{p:List UInt8->Bool}(hI:ZLb h a l)(hbd:ZAp Tryz.prog g=true)
  (hp:∀h1,Ext h h1->∀x∈l,Sv Tryz.prog g (first++([str x]++capv)) h1 (RetP fun v h'=>v=.bool (p x)/\Ext h1 h')) (hlen:l.length<9223372036854775808) :
  Sv Tryz.prog 64 [.slice a l.length cap,.func (.func g) ⟨first⟩ ⟨capv⟩] h (RetP fun v h'=>v=.bool (l.any p)/\Ext h h'):=by
 refine ZAG Tryz.func64 rfl (by rw[Tryz.ntmps64];rfl) ?_;show Wc Tryz.prog ⟨64,9,none⟩ _ _ _ _ _;refine zz ?_;refine ZBv rfl rfl rfl rfl rfl Bod.h rfl rfl (ZKT hI hbd hp hlen) fun h1 hE1=>?_;refine zz ?_;refine ZAx rfl rfl rfl rfl (ZFD rfl rfl) (fun hb=>?_) (fun hb=>?_)
 ·refine zz ?_
  exact ZAC (ZAD rfl ⟨by rw[<-ZIm,decide_eq_true hb];rfl,hE1⟩)
 ·refine zz ?_
  exact ZAC (ZAD rfl ⟨by rw[<-ZIm,decide_eq_false hb];rfl,hE1⟩)
theorem ZOE:∀{l p:List UInt8},p∈ZAl l->p.length<=l.length:=by
 intro l
 induction l with
 | nil=>intro p hp;simp[ZAl] at hp;simp[hp]
 | cons x l ih =>
  intro p hp;unfold ZAl at hp
  split at hp
  ·rcases List.mem_cons.1 hp with rfl|g
   ·simp
   ·have:=ih g;simp;omega
  ·split at hp
   ·rename_i hq;exact absurd hq (ZHo l)
   ·rename_i q qs hq
    rcases List.mem_cons.1 hp with rfl|g
    ·have:=ih (p:=q) (by rw[hq];exact List.mem_cons_self);simpa using this
    ·have:=ih (p:=p) (by rw[hq];exact List.mem_cons_of_mem _ g);simp;omega
def letB (c:UInt8):Bool:=decide (97<=c.toNat/\c.toNat<=122)
def fstL:List UInt8->Bool
 | []=>false
 | c::_=>letB c
def digB (c:UInt8):Bool:=decide (48<=c.toNat/\c.toNat<=57)
def ZA7 (l:List UInt8):Bool:=decide (1<=l.length/\l.length<=24) && fstL l && (ZAl l).all fun p=>!(decide (p=[]) || !p.all al)
theorem ZBc (l:List UInt8)(h:Heap)(hlen:l.length<9223372036854775808):Sv Tryz.prog 38 [str l] h (RetP fun v h'=>v=.bool (ZA7 l)/\Ext h h'):=by
 refine ZAG Tryz.func38 rfl (by rw[Tryz.ntmps38];rfl) ?_;show Wc Tryz.prog ⟨38,16,none⟩ _ _ _ _ _;refine zz ?_;refine ZDo rfl rfl rfl rfl rfl Bod.h rfl rfl (ZIr _ _ _ _) (fun h1=>?_) (fun h1=>?_)
 ·refine zz ?_
  refine ZAC (ZAD rfl ⟨?_,Ext.refl _⟩);have:¬(1<=l.length/\l.length<=24):=by have:=of_decide_eq_true h1;omega
  simp only[ZA7,decide_eq_false this,Bool.false_and];rfl
 have h1':1<=l.length/\l.length<=24:=by have:=of_decide_eq_false h1;omega
 obtain⟨c,r,rfl⟩:∃c r,l=c::r:=by
  cases l with
  | nil=>simp at h1'
  | cons c r=>exact⟨c,r,rfl⟩
 refine zz ?_;refine ZAV rfl rfl rfl rfl (ZAc (k:=0) Und.h rfl rfl rfl (by simp)) ?_;refine ZAV rfl rfl rfl rfl (ZPe Und.h Und.h rfl) ?_;refine ZDo rfl rfl rfl rfl rfl Bod.h rfl rfl (ZIr _ _ _ _) (fun h2=>?_) (fun h2=>?_)
 ·refine zz ?_
  refine ZAC (ZAD rfl ⟨?_,Ext.refl _⟩);have h2':=of_decide_eq_true h2;have:letB c=false:=decide_eq_false (by simp at h2';omega);simp only[ZA7,fstL,this,Bool.and_false,Bool.false_and];rfl
 have hlet:letB c=true:=decide_eq_true (by have:=of_decide_eq_false h2;simp at this;omega);refine zz ?_;refine ZAa rfl rfl rfl rfl rfl Bod.h rfl rfl (ZS9 _ _ (by omega)) ?_;rintro _ h3 ⟨a,cap,rfl,hst,hE3⟩;have hpl:∀p∈ZAl (c::r),p.length<9223372036854775808:=by
  intro p hp;have:=ZOE hp;omega
 refine ZAa rfl rfl rfl rfl rfl Bod.h rfl rfl (ZGw (first:=[]) (capv:=[]) (p:=fun p=>decide (p=[]) || !p.all al) hst Bod.h (fun h1 _ x hx=>ZS6 x h1 (hpl x hx)) (by rw[ZJD];have:=List.count_le_length (a:=dash) (l:=c::r);omega)) ?_;rintro _ h4 ⟨rfl,hE4⟩;refine zz ?_;refine ZAC (ZAD rfl ⟨?_,hE3.trans hE4⟩);have:ZA7 (c::r)=!(ZAl (c::r)).any fun p=>decide (p=[]) || !p.all al:=by
  simp only[ZA7,fstL,decide_eq_true h1',hlet,Bool.true_and];rw[List.all_eq_not_any_not];simp
 rw[this];rfl
theorem ZLl (c:UInt8)(h:Heap):Sv Tryz.prog 70 [byt c] h (RetP fun v h'=>v=.bool (letB c)/\h'=h):=by
 refine ZAG Tryz.func70 rfl (by rw[Tryz.ntmps70];rfl) ?_;show Wc Tryz.prog ⟨70,9,none⟩ _ _ _ _ _;refine zz ?_;refine ZAx rfl rfl rfl rfl (ZFD rfl rfl) (fun h1=>?_) (fun h1=>?_)
 ·refine zz ?_
  refine ZAx rfl rfl rfl rfl (ZEL rfl rfl) (fun h2=>?_) (fun h2=>?_)
  ·refine zz ?_
   exact ZAC (ZAD rfl ⟨by rw[letB,decide_eq_true (by omega)];rfl,rfl⟩)
  ·refine zz ?_
   exact ZAC (ZAD rfl ⟨by rw[letB,decide_eq_false (by omega)];rfl,rfl⟩)
 ·refine zz ?_
  exact ZAC (ZAD rfl ⟨by rw[letB,decide_eq_false (by omega)];rfl,rfl⟩)
def okAt (l:List UInt8)(i:Nat):Bool:=match l[i]? with
 | none=>true
 | some c=>letB c || digB c || (decide (c=dash) && !(decide (l[i-1]?=some dash)) && !decide (i+1=l.length))
def ZCv (l:List UInt8):Bool:=decide (1<=l.length/\l.length<=24) && fstL l && (List.range l.length).all (okAt l)
theorem ZKk {a b:UInt8}:(a.toNat:Int)=(b.toNat:Int) ↔ a=b:=by
 constructor
 ·intro h;exact UInt8.toNat_inj.1 (by omega)
 ·rintro rfl;rfl
theorem ZIx (l:List UInt8)(h:Heap)(hlen:l.length<9223372036854775808):Sv Tryz.prog 40 [str l] h (RetP fun v h'=>v=.bool (ZCv l)/\h'=h):=by
 refine ZAG Tryz.func40 rfl (by rw[Tryz.ntmps40];rfl) ?_;show Wc Tryz.prog ⟨40,54,none⟩ _ _ _ _ _;refine zz ?_;refine ZDo rfl rfl rfl rfl rfl Bod.h rfl rfl (ZUk _ _ _ _) (fun h1=>?_) (fun h1=>?_);rotate_left
 ·refine zz ?_
  refine ZAC (ZAD rfl ⟨?_,rfl⟩);have:¬(1<=l.length/\l.length<=24):=by have:=of_decide_eq_false h1;omega
  simp only[ZCv,decide_eq_false this,Bool.false_and];rfl
 have h1':1<=l.length/\l.length<=24:=by have:=of_decide_eq_true h1;omega
 obtain⟨c,r,hcr⟩:∃c r,l=c::r:=by
  cases l with
  | nil=>simp at h1'
  | cons c r=>exact⟨c,r,rfl⟩
 have h0:0<l.length:=by omega
 have hc0:l[0]=c:=by simp[hcr]
 refine zz ?_;refine ZAV rfl rfl rfl rfl (ZAc (k:=0) Und.h rfl rfl rfl h0) ?_;refine ZDo rfl rfl rfl rfl rfl Bod.h rfl rfl (ZLl _ _) (fun h2=>?_) (fun h2=>?_);rotate_left
 ·refine zz ?_
  refine ZAC (ZAD rfl ⟨?_,rfl⟩);rw[hc0] at h2;have:ZCv l=false:=by simp only[ZCv,fstL,hcr,h2,Bool.and_false,Bool.false_and]
  rw[this];rfl
 rw[hc0] at h2;have hname:ZCv l=(List.range l.length).all (okAt l):=by
  have:fstL l=true:=by rw[hcr];exact h2
  simp only[ZCv,decide_eq_true h1',this,Bool.true_and]
 refine zz ?_;refine ZAN (fun (k:Nat) m ds h'=>ds=[]/\h'=h/\k<=l.length/\(∀j,j<k->okAt l j=true)/\AllK m [(0,str l),(3,i64 k)]) (fun k=>l.length-k) 0 ?_ ?_
 ·exact⟨rfl,rfl,Nat.zero_le _,(fun _ hj=>by omega),rfl,rfl,trivial⟩
 rintro k m ds h' ⟨rfl,rfl,hk,hok,hall⟩
 have hbad:k<l.length->okAt l k=false->ZCv l=false:=fun hlt hb=>by
  rw[hname,List.all_eq_false];exact⟨k,List.mem_range.2 hlt,by rw[hb];simp⟩
 refine Wc.le ?_ (Le.kn hall);refine zz ?_;refine ZAx rfl rfl rfl rfl (ZAU rfl rfl) (fun h3=>?_) (fun h3=>?_)
 ·have hk':k<l.length:=by simpa using h3
  have hget:l[k]?=some l[k]:=List.getElem?_eq_getElem hk';have next:∀m',okAt l k=true->AllK m' [(0,str l),(3,i64 k)]->∀j,j<k+1->okAt l j=true:=by
   intro _ hb _ j hj
   rcases Nat.lt_or_ge j k with g|g
   ·exact hok j g
   ·have:j=k:=by omega
    subst this;exact hb
  refine zz ?_;refine ZAV rfl rfl rfl rfl (ZAc (k:=k) Und.h rfl rfl rfl hk') ?_;refine ZDo rfl rfl rfl rfl rfl Bod.h rfl rfl (ZLl _ _) (fun h4=>?_) (fun h4=>?_)
  ·refine zz ?_
   refine⟨k+1,?_,rfl,rfl,hk',next _ (by simp[okAt,hget,h4]) hall,rfl,rfl,trivial⟩
   show l.length-(k+1)<l.length-k;omega
  refine zz ?_;refine ZAV rfl rfl rfl rfl (ZAc (k:=k) Und.h rfl rfl rfl hk') ?_;have third:digB l[k]=false->∀{m':Mem} {Q':CQ},True:=fun _ _ _=>trivial;refine ZAx rfl rfl rfl rfl (ZFD rfl rfl) (fun h5=>?_) (fun h5=>?_)
  ·refine zz ?_
   refine ZAV rfl rfl rfl rfl (ZAc (k:=k) Und.h rfl rfl rfl hk') ?_;refine ZAx rfl rfl rfl rfl (ZEL rfl rfl) (fun h6=>?_) (fun h6=>?_)
   ·refine zz ?_
    refine⟨k+1,?_,rfl,rfl,hk',next _ ?_ hall,rfl,rfl,trivial⟩
    ·show l.length-(k+1)<l.length-k;omega
    ·have:digB l[k]=true:=decide_eq_true (by omega)
     simp[okAt,hget,this]
   ·have hdig:digB l[k]=false:=decide_eq_false (by omega)
    refine zz ?_;refine ZAV rfl rfl rfl rfl (ZAc (k:=k) Und.h rfl rfl rfl hk') ?_;refine ZAx rfl rfl rfl rfl (ZAh rfl rfl) (fun h7=>?_) (fun h7=>?_)
    ·refine zz ?_
     refine ZAC (ZAD rfl ⟨?_,rfl⟩);have hd:¬l[k]=dash:=fun e=>h7 (by rw[e];rfl);rw[hbad hk' (by simp[okAt,hget,h4,hdig,hd])];rfl
    have hd:l[k]=dash:=by
     have:=Classical.not_not.1 h7;exact ZKk.1 this
    have hk0:k≠0:=fun e=>by
     subst e;rw[hc0] at h4;rw[h4] at h2;cases h2
    refine zz ?_;refine ZAV rfl rfl rfl rfl (ZAc (k:=k-1) Und.h rfl rfl (by omega) (by omega)) ?_;have hget1:l[k-1]?=some l[k-1]:=List.getElem?_eq_getElem (by omega);refine ZAx rfl rfl rfl rfl (ZAg rfl rfl) (fun h8=>?_) (fun h8=>?_)
    ·refine zz ?_
     refine ZAC (ZAD rfl ⟨?_,rfl⟩);have hd1:l[k-1]=dash:=ZKk.1 h8;rw[hbad hk' (by simp[okAt,hget,hget1,hd,hd1,show letB dash=false by decide,show digB dash=false by decide])];rfl
    have hd1:¬l[k-1]=dash:=fun e=>h8 (by rw[e];rfl);refine zz ?_;refine ZAx rfl rfl rfl rfl (ZAg rfl rfl) (fun h9=>?_) (fun h9=>?_)
    ·refine zz ?_
     refine ZAC (ZAD rfl ⟨?_,rfl⟩);have he:k+1=l.length:=by omega
     rw[hbad hk' (by simp[okAt,hget,hget1,hd,hd1,show letB dash=false by decide,show digB dash=false by decide,he])];rfl
    ·refine zz ?_
     have he:¬k+1=l.length:=by omega
     refine⟨k+1,?_,rfl,rfl,hk',next _ (by simp[okAt,hget,hget1,hd,hd1,show letB dash=false by decide,show digB dash=false by decide,he]) hall,rfl,rfl,trivial⟩
     show l.length-(k+1)<l.length-k;omega
  ·have hdig:digB l[k]=false:=decide_eq_false (by omega)
   refine zz ?_;refine ZAV rfl rfl rfl rfl (ZAc (k:=k) Und.h rfl rfl rfl hk') ?_;refine ZAx rfl rfl rfl rfl (ZAh rfl rfl) (fun h7=>?_) (fun h7=>?_)
   ·refine zz ?_
    refine ZAC (ZAD rfl ⟨?_,rfl⟩);have hd:¬l[k]=dash:=fun e=>h7 (by rw[e];rfl);rw[hbad hk' (by simp[okAt,hget,h4,hdig,hd])];rfl
   have hd:l[k]=dash:=by
    have:=Classical.not_not.1 h7;exact ZKk.1 this
   have hk0:k≠0:=fun e=>by
    subst e;rw[hc0] at h4;rw[h4] at h2;cases h2
   refine zz ?_;refine ZAV rfl rfl rfl rfl (ZAc (k:=k-1) Und.h rfl rfl (by omega) (by omega)) ?_;have hget1:l[k-1]?=some l[k-1]:=List.getElem?_eq_getElem (by omega);refine ZAx rfl rfl rfl rfl (ZAg rfl rfl) (fun h8=>?_) (fun h8=>?_)
   ·refine zz ?_
    refine ZAC (ZAD rfl ⟨?_,rfl⟩);have hd1:l[k-1]=dash:=ZKk.1 h8;rw[hbad hk' (by simp[okAt,hget,hget1,hd,hd1,show letB dash=false by decide,show digB dash=false by decide])];rfl
   have hd1:¬l[k-1]=dash:=fun e=>h8 (by rw[e];rfl);refine zz ?_;refine ZAx rfl rfl rfl rfl (ZAg rfl rfl) (fun h9=>?_) (fun h9=>?_)
   ·refine zz ?_
    refine ZAC (ZAD rfl ⟨?_,rfl⟩);have he:k+1=l.length:=by omega
    rw[hbad hk' (by simp[okAt,hget,hget1,hd,hd1,show letB dash=false by decide,show digB dash=false by decide,he])];rfl
   ·refine zz ?_
    have he:¬k+1=l.length:=by omega
    refine⟨k+1,?_,rfl,rfl,hk',next _ (by simp[okAt,hget,hget1,hd,hd1,show letB dash=false by decide,show digB dash=false by decide,he]) hall,rfl,rfl,trivial⟩
    show l.length-(k+1)<l.length-k;omega
 ·refine zz ?_
  refine ZAC (ZAD rfl ⟨?_,rfl⟩);have:ZCv l=true:=by
   rw[hname,List.all_eq_true];intro j hj;exact hok j (by have:=List.mem_range.1 hj;omega)
  rw[this];rfl
end Go.Dw
