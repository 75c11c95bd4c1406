/- G3: contracts: the table of ways, screen.Check. -/
import Derived.Test.YtfgeelpahicelaaGreatDoorXG2
import Derived.Test.YtfgeelpahicelaaGreatDoorXG8
import Derived.Test.YtfgeelpahicelaaGreatDoorXG7
import Derived.Test.YtfgeelpahicelaaGreatDoorXG5
set_option linter.unusedVariables false
set_option linter.unusedSimpArgs false
namespace Go.Dw
open Go Go.Dx Go.Proofs
set_option maxRecDepth 100000
def tup3 (x:Int×Int×Int):Value:=.tuple ⟨[i64 x.1,i64 x.2.1,i64 x.2.2]⟩
theorem ZIf {a:Option Addr}{cap:Nat}{l:List (List Int)}{h:Heap}{g:FuncId}{first capv:List Value}{p:List Int->Bool}(hI:ZAN 1 ZCG h a l)(hbd:ZAm Tryz.prog g=true)
  (hp:∀h1,Ext h h1->∀ap c x,x∈l->ZBz h1 ap x->Sv Tryz.prog g (first++([.slice ap x.length c]++capv)) h1 (RetP fun v h'=>v=.bool (p x)/\Ext h1 h')) (hlen:l.length<9223372036854775808) :
  Sv Tryz.prog 173 [.slice a l.length cap,.func (.func g) ⟨first⟩ ⟨capv⟩] h (RetP fun v h'=>v=i64 (ZBY p l)/\Ext h h'):=by
 refine ZAH Tryz.func173 rfl (by rw[Tryz.ntmps173];rfl) ?_;show Wc Tryz.prog ⟨173,19,none⟩ _ _ _ _ _;refine zy ?_
 refine ZAT (fun (k:Nat) m ds h'=>ds=[]/\Ext h h'/\k<=l.length/\(∀j (hj:j<l.length),j<k->p l[j]=false)/\AllK m [(0,.slice a l.length cap),(1,.func (.func g) ⟨first⟩ ⟨capv⟩),(7,i64 l.length),(8,i64 k)])
  (fun k=>l.length-k) 0 ?_ ?_
 ·exact⟨rfl,Ext.refl _,Nat.zero_le _,(fun _ _ hj=>by omega),rfl,rfl,rfl,rfl,trivial⟩
 rintro k m ds h' ⟨rfl,hE,hk,hno,hall⟩;refine Wc.le ?_ (Le.kn hall);refine zy ?_;refine ZAE rfl rfl rfl rfl (ZAW rfl rfl) (fun h1=>?_) (fun h1=>?_)
 ·have hk':k<l.length:=by simpa using h1
  obtain⟨b,o,oa,rfl,row,hrow,ap,c,rfl,hIp⟩:=hI k hk';have hc:ZAc h' b (o+k*1)=some (.slice ap l[k].length c):=ZAR (k:=0) (hE.row hrow) rfl;refine zy ?_;refine ZAI rfl rfl rfl rfl (A_ix Und.h Tsz.h rfl rfl) ?_;refine zy ?_;refine ZAn rfl rfl rfl rfl rfl hbd rfl rfl (hp h' hE _ _ _ (List.getElem_mem hk') (hIp.ext hE)) (fun hb h2 hE2=>?_) (fun hb h2 hE2=>?_)
  ·refine zy ?_
   refine ZAC (ZAD rfl ⟨?_,hE.trans hE2⟩);have:l.findIdx? p=some k:=by
    rw[List.findIdx?_eq_some_iff_getElem];exact⟨hk',hb,fun j hj=>by simp[hno j (by omega) hj]⟩
   simp[ZBY,this];rfl
  ·refine zy ?_
   refine⟨k+1,?_,rfl,hE.trans hE2,hk',?_,rfl,rfl,rfl,rfl,trivial⟩
   ·show l.length-(k+1)<l.length-k;omega
   ·intro j hj hlt
    rcases Nat.lt_or_ge j k with g|g
    ·exact hno j hj g
    ·have:j=k:=by omega
     subst this;exact hb
 ·have hk2:k=l.length:=by omega
  subst hk2;refine zy ?_;refine ZAC (ZAD rfl ⟨?_,hE⟩);have:l.findIdx? p=none:=by
   rw[List.findIdx?_eq_none_iff];intro x hx;obtain⟨j,hj,rfl⟩:=List.getElem_of_mem hx;exact hno j hj hj
  simp[ZBY,this];rfl
theorem ZDr {a:Option Addr}{cap:Nat}{l:List (List Int)}{h:Heap}{g:FuncId}{first capv:List Value}{p:List Int->Bool}(hI:ZAN 1 ZCG h a l)(hbd:ZAm Tryz.prog g=true)
  (hp:∀h1,Ext h h1->∀ap c x,x∈l->ZBz h1 ap x->Sv Tryz.prog g (first++([.slice ap x.length c]++capv)) h1 (RetP fun v h'=>v=.bool (p x)/\Ext h1 h')) (hlen:l.length<9223372036854775808) :
  Sv Tryz.prog 133 [.slice a l.length cap,.func (.func g) ⟨first⟩ ⟨capv⟩] h (RetP fun v h'=>v=.bool (l.any p)/\Ext h h'):=by
 refine ZAH Tryz.func133 rfl (by rw[Tryz.ntmps133];rfl) ?_;show Wc Tryz.prog ⟨133,9,none⟩ _ _ _ _ _;refine zy ?_;refine ZAS rfl rfl rfl rfl rfl Bod.h rfl rfl (ZIf hI hbd hp hlen) fun h1 hE1=>?_;refine zy ?_;refine ZAE rfl rfl rfl rfl (ZDX rfl rfl) (fun hb=>?_) (fun hb=>?_)
 ·refine zy ?_
  exact ZAC (ZAD rfl ⟨by rw[<-ZBe,decide_eq_true hb];rfl,hE1⟩)
 ·refine zy ?_
  exact ZAC (ZAD rfl ⟨by rw[<-ZBe,decide_eq_false hb];rfl,hE1⟩)
theorem ZKa {b1:Nat}{t:ScT}{al:Option Addr}{cl:Nat}{r:List Value}{f:Int}{ap:Option Addr}{c:Nat}{x:List Int}{h:Heap}(hg:h.get b1=some (.cells (i64 f::.slice al t.lands.length cl::r) 115 false)) :
  Sv Tryz.prog 129 [.slice ap x.length c,.pointer (some ⟨b1,0,none⟩)] h (RetP fun v h'=>v=.bool (decide (x.length≠t.lands.length))/\h'=h):=by
 refine ZAH Tryz.func129 rfl (by rw[Tryz.ntmps129];rfl) ?_;show Wc Tryz.prog ⟨129,11,none⟩ _ _ _ _ _;refine zy ?_;refine ZAE rfl rfl rfl rfl (ZAb rfl rfl) (fun h1=>?_) (fun h1=>?_)
 ·refine zy ?_
  exact ZAC (ZAD rfl ⟨by rw[decide_eq_true (show x.length≠t.lands.length from fun e=>h1 (by rw[e]))];rfl,rfl⟩)
 ·refine zy ?_
  exact ZAC (ZAD rfl ⟨by rw[decide_eq_false (show ¬x.length≠t.lands.length from fun e=>e (by have:=Decidable.not_not.1 h1;omega))];rfl,rfl⟩)
theorem ZJT (n:Int)(h:Heap):Sv Tryz.prog 132 [i64 n] h (RetP fun v h'=>v=.bool (decide (n < -1\/60<n))/\h'=h):=by
 refine ZAH Tryz.func132 rfl (by rw[Tryz.ntmps132];rfl) ?_;show Wc Tryz.prog ⟨132,5,none⟩ _ _ _ _ _;refine zy ?_;refine ZA6 rfl rfl rfl rfl rfl Bod.h rfl rfl (ZA9 _ _ _ _) ?_;refine zy ?_;exact ZAC (ZAD rfl ⟨rfl,rfl⟩)
theorem ZJ5 {ap:Option Addr}{c:Nat}{x:List Int}{h:Heap}(hI:ZBz h ap x)(hL:Len x) :
  Sv Tryz.prog 130 [.slice ap x.length c] h (RetP fun v h'=>v=.bool (x.any fun n=>decide (n < -1\/60<n))/\Ext h h'):=by
 refine ZAH Tryz.func130 rfl (by rw[Tryz.ntmps130];rfl) ?_;show Wc Tryz.prog ⟨130,5,none⟩ _ _ _ _ _;refine zy ?_;refine ZAS rfl rfl rfl rfl rfl Bod.h rfl rfl (ZDp (first:=[]) (capv:=[]) (p:=fun n=>decide (n < -1\/60<n)) hI Bod.h (fun h3 _ x _=>(ZJT x h3).grows) hL) fun h1 hE1=>?_;refine zy ?_;exact ZAC (ZAD rfl ⟨rfl,hE1⟩)
theorem ZK1 {tc:List Value}{t:ScT}{h:Heap}(ht:ZBX h tc t)(hT:t.Fit):Sv Tryz.prog 59 [.agg ⟨tc⟩] h (RetP fun r h'=>r=i64 (ZBB t)/\Ext h h'):=by
 obtain⟨al,cl,at',ct,a1,c1,a2,c2,a3,c3,a4,c4,a5,c5,a6,c6,rfl,-,hTv,-⟩:=ht;have hL:=hT.lands;have hL2:=hT.travel;refine ZAy fun hw=>?_;refine ZAH Tryz.func59 rfl (by rw[Tryz.ntmps59];rfl) ?_;show Wc Tryz.prog ⟨59,29,none⟩ _ _ _ _ _;refine zy ?_;refine ZAa rfl rfl rfl fun h1 hE1 hW1 hg1 hn1=>?_;generalize h.nx=b1 at *;refine zy ?_;refine ZAE rfl rfl rfl rfl (ZAb rfl rfl) (fun h3=>?_) (fun h3=>?_)
 ·refine zy ?_
  exact ZAC (ZAD rfl ⟨by rw[ZBB,if_pos (fun e=>h3 (by rw[e]))];rfl,hE1⟩)
 have hA:¬t.travel.length≠t.lands.length:=fun e=>e (by have:=Decidable.not_not.1 h3;omega);refine zy ?_;refine ZAn rfl rfl rfl rfl rfl Bod.h rfl rfl (ZDr (first:=[]) (capv:=[.pointer (some ⟨b1,0,none⟩)]) (p:=fun l=>decide (l.length≠t.lands.length)) (ZAN.ext (R:=ZCG) (fun x y=>ZCG.ext x y) hTv hE1) Bod.h (fun h3 hE3 _ _ x _ _=>(ZKa (hE3.get hg1)).grows) hL2) (fun h4 h5 hE5=>?_) (fun h4 h5 hE5=>?_)
 ·refine zy ?_
  exact ZAC (ZAD rfl ⟨by rw[ZBB,if_neg hA,if_pos h4];rfl,hE1.trans hE5⟩)
 have hB:¬(t.travel.any fun l=>decide (l.length≠t.lands.length))=true:=by rw[h4];simp
 replace hg1:=hE5.get hg1;replace hE1:=hE1.trans hE5;refine zy ?_;refine ZAn rfl rfl rfl rfl rfl Bod.h rfl rfl (ZDr (first:=[]) (capv:=[]) (p:=fun l=>l.any fun n=>decide (n < -1\/60<n)) (ZAN.ext (R:=ZCG) (fun x y=>ZCG.ext x y) hTv hE1) Bod.h (fun h3 hE3 _ _ x hx hI=>ZJ5 hI (hT.travelL x hx).1) hL2) (fun h6 h7 hE7=>?_) (fun h6 h7 hE7=>?_)
 ·refine zy ?_
  exact ZAC (ZAD rfl ⟨by rw[ZBB,if_neg hA,if_neg hB,if_pos h6];rfl,hE1.trans hE7⟩)
 refine zy ?_;exact ZAC (ZAD rfl ⟨by rw[ZBB,if_neg hA,if_neg hB,if_neg (by rw[h6];simp)];rfl,hE1.trans hE7⟩)
theorem ZNO (s:List UInt8)(h:Heap):Sv Tryz.prog 57 [str s] h (RetP fun v h'=>v=str s/\Ext h h'):=by
 refine ZAH Tryz.func57 rfl (by rw[Tryz.ntmps57];rfl) ?_;show Wc Tryz.prog ⟨57,4,none⟩ _ _ _ _ _;refine zy ?_;exact ZAC (ZAD rfl ⟨rfl,Ext.refl _⟩)
theorem ZNH (s:List UInt8)(h:Heap):Sv Tryz.prog 58 [str s] h (RetP fun v h'=>v=i64 0/\Ext h h'):=by
 refine ZAH Tryz.func58 rfl (by rw[Tryz.ntmps58];rfl) ?_;show Wc Tryz.prog ⟨58,3,none⟩ _ _ _ _ _;refine zy ?_;exact ZAC (ZAD rfl ⟨rfl,Ext.refl _⟩)
theorem ZNF {row:List Value}{v:ScV}{h:Heap}(hr:ScVR h row v):Sv Tryz.prog 61 [.agg ⟨row⟩] h (RetP fun r h'=>r=str v.name/\Ext h h'):=by
 obtain rfl:=hr;refine ZAy fun hw=>?_;refine ZAH Tryz.func61 rfl (by rw[Tryz.ntmps61];rfl) ?_;show Wc Tryz.prog ⟨61,5,none⟩ _ _ _ _ _;refine zy ?_;refine ZAa rfl rfl rfl fun h1 hE1 hW1 hg1 hn1=>?_;generalize h.nx=b1 at *;refine zy ?_;exact ZAC (ZAD rfl ⟨rfl,hE1⟩)
theorem ZMt {row:List Value}{v:ScP}{h:Heap}(hr:ScPR h row v):Sv Tryz.prog 66 [.agg ⟨row⟩] h (RetP fun r h'=>r=str v.name/\Ext h h'):=by
 obtain⟨ap,cp,rfl,-⟩:=hr;refine ZAy fun hw=>?_;refine ZAH Tryz.func66 rfl (by rw[Tryz.ntmps66];rfl) ?_;show Wc Tryz.prog ⟨66,5,none⟩ _ _ _ _ _;refine zy ?_;refine ZAa rfl rfl rfl fun h1 hE1 hW1 hg1 hn1=>?_;generalize h.nx=b1 at *;refine zy ?_;exact ZAC (ZAD rfl ⟨rfl,hE1⟩)
theorem ZNJ {row:List Value}{v:ScPk}{h:Heap}(hr:ZEV h row v):Sv Tryz.prog 69 [.agg ⟨row⟩] h (RetP fun r h'=>r=str v.name/\Ext h h'):=by
 obtain rfl:=hr;refine ZAy fun hw=>?_;refine ZAH Tryz.func69 rfl (by rw[Tryz.ntmps69];rfl) ?_;show Wc Tryz.prog ⟨69,5,none⟩ _ _ _ _ _;refine zy ?_;refine ZAa rfl rfl rfl fun h1 hE1 hW1 hg1 hn1=>?_;generalize h.nx=b1 at *;refine zy ?_;exact ZAC (ZAD rfl ⟨rfl,hE1⟩)
theorem ZRt (x0 x1 x2 x3 x4 x5 x6 x7 x8:Value) :
  Instr.fill ([(0,9)].toArray[·]?) (Value.agg ⟨[i64 0,.slice none 0 0,.slice none 0 0,.slice none 0 0,.slice none 0 0,.slice none 0 0,.slice none 0 0,.slice none 0 0,.slice none 0 0]⟩).cells [(0,.agg ⟨[x0,x1,x2,x3,x4,x5,x6,x7,x8]⟩)]=some ⟨[x0,x1,x2,x3,x4,x5,x6,x7,x8]⟩:=by kernel_rfl
set_option maxHeartbeats 1000000 in
theorem ZNQ {tc:List Value}{t:ScT}{h:Heap}(ht:ZBX h tc t)(hT:t.Fit):Sv Tryz.prog 18 [.agg ⟨tc⟩] h (RetP fun v h'=>v=tup3 (ZAw t)/\Ext h h'):=by
 have ht0:=ht;obtain⟨al,cl,at',ct,a1,c1,a2,c2,a3,c3,a4,c4,a5,c5,a6,c6,rfl,m1,m2,m3,m4,m5,m6,m7,m8⟩:=ht;have f1:=hT.first;have f2:=hT.lands;have f3:=hT.venues;have f4:=hT.rights;have f5:=hT.prints;have f6:=hT.packs;have f7:=hT.keys;have f8:=hT.loans;refine ZAy fun hw=>?_;refine ZAH Tryz.func18 rfl (by rw[Tryz.ntmps18];rfl) ?_;show Wc Tryz.prog ⟨18,155,none⟩ _ _ _ _ _;refine zy ?_;refine ZAa rfl rfl rfl fun h1 hE1 hW1 hg1 hn1=>?_;refine zz ?_;refine ZAI rfl rfl rfl rfl (ZED rfl (ZRt _ _ _ _ _ _ _ _ _)) ?_;refine ZAh rfl rfl Zr.h Tsz.h rfl (fun _=>rfl) rfl rfl rfl fun h2 hE2 hW2 hg2 hn2=>?_;replace hE1:=hE1.trans hE2
 generalize h1.nx=b2 at *;clear hE2 hW2 hn2;refine zy ?_;refine ZAP rfl rfl rfl rfl rfl Bod.h rfl rfl (ZA9 _ _ _ _) (fun h3=>?_) (fun h3=>?_)
 ·refine zy ?_
  exact ZAC (ZAD rfl ⟨by rw[ZAw,if_pos (of_decide_eq_true h3)];rfl,hE1⟩)
 have hA:=of_decide_eq_false h3;refine zy ?_;refine ZAP rfl rfl rfl rfl rfl Bod.h rfl rfl (ZA9 _ _ _ _) (fun h4=>?_) (fun h4=>?_)
 ·refine zy ?_
  exact ZAC (ZAD rfl ⟨by rw[ZAw,if_neg hA,if_pos (by have:=of_decide_eq_true h4;omega)];rfl,hE1⟩)
 have h4':=of_decide_eq_false h4;refine zy ?_;refine ZAP rfl rfl rfl rfl rfl Bod.h rfl rfl (ZA9 _ _ _ _) (fun h5=>?_) (fun h5=>?_)
 ·refine zy ?_
  exact ZAC (ZAD rfl ⟨by rw[ZAw,if_neg hA,if_pos (by have:=of_decide_eq_true h5;omega)];rfl,hE1⟩)
 have h5':=of_decide_eq_false h5;refine zy ?_;refine ZAE rfl rfl rfl rfl (ZB0 rfl rfl) (fun g0=>?_) (fun g0=>?_)
 ·refine zy ?_
  exact ZAC (ZAD rfl ⟨by rw[ZAw,if_neg hA,if_pos (by omega)];rfl,hE1⟩)
 refine zy ?_;refine ZAE rfl rfl rfl rfl (ZB0 rfl rfl) (fun g1=>?_) (fun g1=>?_)
 ·refine zy ?_
  exact ZAC (ZAD rfl ⟨by rw[ZAw,if_neg hA,if_pos (by omega)];rfl,hE1⟩)
 refine zy ?_;refine ZAE rfl rfl rfl rfl (ZB0 rfl rfl) (fun g2=>?_) (fun g2=>?_)
 ·refine zy ?_
  exact ZAC (ZAD rfl ⟨by rw[ZAw,if_neg hA,if_pos (by omega)];rfl,hE1⟩)
 refine zy ?_;refine ZAE rfl rfl rfl rfl (ZB0 rfl rfl) (fun g3=>?_) (fun g3=>?_)
 ·refine zy ?_
  exact ZAC (ZAD rfl ⟨by rw[ZAw,if_neg hA,if_pos (by omega)];rfl,hE1⟩)
 refine zy ?_;refine ZAE rfl rfl rfl rfl (ZB0 rfl rfl) (fun g4=>?_) (fun g4=>?_)
 ·refine zy ?_
  exact ZAC (ZAD rfl ⟨by rw[ZAw,if_neg hA,if_pos (by omega)];rfl,hE1⟩)
 have hB:¬((t.lands.length<1\/8<t.lands.length)\/(t.venues.length<1\/8<t.venues.length)\/30<t.rights.length\/12<t.prints.length\/12<t.packs.length\/30<t.keys.length\/30<t.loans.length):=by omega
 have e0:ZAw t=orE 2 (goNm id (fun _=>0) 0 [] t.lands) (if ZBB t≠0 then (2,0,ZBB t) else orE 3 (goNm ScV.name (ZAt t) 0 [] t.venues) (orE 4 (goEa (ZA5 t) 0 t.rights) (orE 5 (goNm ScP.name (ZAp t) 0 [] t.prints) (orE 6 (goNm ScPk.name ZA8 0 [] t.packs) (orE 7 (goEa (ZCJ t) 0 t.keys) (orE 8 (goEa (ZA3 t) 0 t.loans) (0,0,0))))))):=by rw[ZAw,if_neg hA,if_neg hB]
 clear h3 h4 h5 h4' h5' g0 g1 g2 g3 g4;refine zy ?_;refine ZAS rfl rfl rfl rfl rfl Bod.h rfl rfl (ZNq (wrong:=fun _=>0) (m1.at'.ext hE1) f2 hT.landsL Bod.h Bod.h (fun h3 _ x _=>ZNO x h3) (f2:=[]) (fun h3 _ x _=>ZNH x h3)) fun h6 hE6=>?_;replace hg2:=hE6.get hg2;replace hE1:=hE1.trans hE6;clear hE6;refine zy ?_;refine ZAE rfl rfl rfl rfl (ZAb rfl rfl) (fun h7=>?_) (fun h7=>?_)
 ·refine zy ?_
  exact ZAC (ZAD rfl ⟨by rw[e0,ZGi h7];rfl,hE1⟩)
 rw[ZG8 ZIV (Decidable.not_not.1 h7)] at e0;clear h7;refine zy ?_;refine ZAS rfl rfl rfl rfl rfl Bod.h rfl rfl (ZK1 (ht0.ext hE1) hT) fun h6 hE6=>?_;replace hg2:=hE6.get hg2;replace hE1:=hE1.trans hE6;clear hE6;refine zy ?_;refine ZAE rfl rfl rfl rfl (ZAb rfl rfl) (fun h7=>?_) (fun h7=>?_)
 ·refine zy ?_
  exact ZAC (ZAD rfl ⟨by rw[e0,if_pos h7];rfl,hE1⟩)
 rw[if_neg h7] at e0;clear h7;refine zy ?_;refine ZAS rfl rfl rfl rfl rfl Bod.h rfl rfl (ZOL (wrong:=ZAt t) (f2:=[.agg ⟨_⟩]) (ZAN.ext (R:=ScVR) (fun x y=>x) m3 hE1) f3 (fun x hx=>(hT.venuesF x hx).name) Bod.h Bod.h (fun h3 _ _ x _ hr=>ZNF hr) (fun h3 hE3 _ x hx hr=>ZM3 (ht0.ext (hE1.trans hE3)) hT hr)) fun h6 hE6=>?_;replace hg2:=hE6.get hg2;replace hE1:=hE1.trans hE6;clear hE6;refine zy ?_;refine ZAE rfl rfl rfl rfl (ZAb rfl rfl) (fun h7=>?_) (fun h7=>?_)
 ·refine zy ?_
  exact ZAC (ZAD rfl ⟨by rw[e0,ZGi h7];rfl,hE1⟩)
 rw[ZG8 ZIV (Decidable.not_not.1 h7)] at e0;clear h7;refine zy ?_;refine ZAS rfl rfl rfl rfl rfl Bod.h rfl rfl (ZPV (wrong:=ZA5 t) (f2:=[.agg ⟨_⟩]) (ZAN.ext (R:=ScRR) (fun x y=>x) m4 hE1) f4 Bod.h (fun h3 hE3 _ x hx hr=>ZMp (ht0.ext (hE1.trans hE3)) hT hr (hT.rightsF x hx))) fun h6 hE6=>?_;replace hg2:=hE6.get hg2;replace hE1:=hE1.trans hE6;clear hE6;refine zy ?_;refine ZAE rfl rfl rfl rfl (ZAb rfl rfl) (fun h7=>?_) (fun h7=>?_)
 ·refine zy ?_
  exact ZAC (ZAD rfl ⟨by rw[e0,ZGi h7];rfl,hE1⟩)
 rw[ZG8 ZKs (Decidable.not_not.1 h7)] at e0;clear h7;refine zy ?_;refine ZAS rfl rfl rfl rfl rfl Bod.h rfl rfl (ZOa (wrong:=ZAp t) (f2:=[.agg ⟨_⟩]) (ZAN.ext (R:=ScPR) (fun x y=>ScPR.ext x y) m5 hE1) f5 (fun x hx=>(hT.printsF x hx).name) Bod.h Bod.h (fun h3 _ _ x _ hr=>ZMt hr) (fun h3 hE3 _ x hx hr=>ZNY (ht0.ext (hE1.trans hE3)) hT hr (hT.printsF x hx))) fun h6 hE6=>?_;replace hg2:=hE6.get hg2;replace hE1:=hE1.trans hE6;clear hE6;refine zy ?_;refine ZAE rfl rfl rfl rfl (ZAb rfl rfl) (fun h7=>?_) (fun h7=>?_)
 ·refine zy ?_
  exact ZAC (ZAD rfl ⟨by rw[e0,ZGi h7];rfl,hE1⟩)
 rw[ZG8 ZIV (Decidable.not_not.1 h7)] at e0;clear h7;refine zy ?_;refine ZAS rfl rfl rfl rfl rfl Bod.h rfl rfl (ZN2 (wrong:=ZA8) (f2:=[.agg ⟨_⟩]) (ZAN.ext (R:=ZEV) (fun x y=>x) m6 hE1) f6 (fun x hx=>(hT.packsF x hx).name) Bod.h Bod.h (fun h3 _ _ x _ hr=>ZNJ hr) (fun h3 hE3 _ x hx hr=>ZOD (ht0.ext (hE1.trans hE3)) hT hr (hT.packsF x hx))) fun h6 hE6=>?_;replace hg2:=hE6.get hg2;replace hE1:=hE1.trans hE6;clear hE6;refine zy ?_;refine ZAE rfl rfl rfl rfl (ZAb rfl rfl) (fun h7=>?_) (fun h7=>?_)
 ·refine zy ?_
  exact ZAC (ZAD rfl ⟨by rw[e0,ZGi h7];rfl,hE1⟩)
 rw[ZG8 ZIV (Decidable.not_not.1 h7)] at e0;clear h7;refine zy ?_;refine ZAS rfl rfl rfl rfl rfl Bod.h rfl rfl (ZQU (wrong:=ZCJ t) (f2:=[.agg ⟨_⟩]) (ZAN.ext (R:=ScKR) (fun x y=>x) m7 hE1) f7 Bod.h (fun h3 hE3 _ x hx hr=>ZPn (ht0.ext (hE1.trans hE3)) hT hr)) fun h6 hE6=>?_;replace hg2:=hE6.get hg2;replace hE1:=hE1.trans hE6;clear hE6;refine zy ?_;refine ZAE rfl rfl rfl rfl (ZAb rfl rfl) (fun h7=>?_) (fun h7=>?_)
 ·refine zy ?_
  exact ZAC (ZAD rfl ⟨by rw[e0,ZGi h7];rfl,hE1⟩)
 rw[ZG8 ZKs (Decidable.not_not.1 h7)] at e0;clear h7;refine zy ?_;refine ZAS rfl rfl rfl rfl rfl Bod.h rfl rfl (ZP0 (wrong:=ZA3 t) (f2:=[.agg ⟨_⟩]) (ZAN.ext (R:=ScLR) (fun x y=>x) m8 hE1) f8 Bod.h (fun h3 hE3 _ x hx hr=>ZOx (ht0.ext (hE1.trans hE3)) hT hr)) fun h6 hE6=>?_;replace hg2:=hE6.get hg2;replace hE1:=hE1.trans hE6;clear hE6;refine zy ?_;refine ZAE rfl rfl rfl rfl (ZAb rfl rfl) (fun h7=>?_) (fun h7=>?_)
 ·refine zy ?_
  exact ZAC (ZAD rfl ⟨by rw[e0,ZGi h7];rfl,hE1⟩)
 rw[ZG8 ZKs (Decidable.not_not.1 h7)] at e0;clear h7;refine zy ?_;exact ZAC (ZAD rfl ⟨by rw[e0];rfl,hE1⟩)
theorem ZJS {h:Heap}{a:Option Addr}{t:ScT}(m3:ZAN 9 ScVR h a t.venues){v:Int}(h0:0<=v)(h1:v<t.venues.length):∃b o oa,a=some ⟨b,o,oa⟩/\ZAc h b (o+v.toNat*9+1)=some (i64 (ZBu t v)):=by
 obtain⟨b,o,oa,e,row,hrow,hr⟩:=m3 v.toNat (by omega);obtain rfl:=hr;refine⟨b,o,oa,e,?_⟩;have:ZBu t v=t.venues[v.toNat].land:=by unfold ZBu;rw[List.getD_eq_getElem?_getD,List.getElem?_eq_getElem (by omega)];rfl
 rw[this];exact ZAR hrow rfl
theorem ZLN {h:Heap}{a:Option Addr}{t:ScT}(m5:ZAN 7 ScPR h a t.prints){v:Int}(h0:0<=v)(h1:v<t.prints.length):∃b o oa,a=some ⟨b,o,oa⟩/\ZAc h b (o+v.toNat*7+6)=some (i64 (ZFG t v)):=by
 obtain⟨b,o,oa,e,row,hrow,ap,cp,hr,-⟩:=m5 v.toNat (by omega);subst hr;refine⟨b,o,oa,e,?_⟩;have:ZFG t v=t.prints[v.toNat].land:=by unfold ZFG;rw[List.getD_eq_getElem?_getD,List.getElem?_eq_getElem (by omega)];rfl
 rw[this];exact ZAR hrow rfl
theorem ZLq {t:ScT}(hO:ScOk t):t.travel.length=t.lands.length/\∀l∈t.travel,l.length=t.lands.length/\∀n∈l,-1<=n/\n<=60:=by
 have h:=hO.travel;unfold ZBB at h
 split at h
 ·cases h
 rename_i h1
 split at h
 ·cases h
 rename_i h2
 split at h
 ·cases h
 rename_i h3;refine⟨by omega,fun l hl=>⟨?_,fun n hn=>?_⟩⟩
 ·rw[Bool.not_eq_true,List.any_eq_false] at h2
  have:=h2 l hl
  simpa using this
 ·rw[Bool.not_eq_true,List.any_eq_false] at h3
  have h4:=h3 l hl;rw[Bool.not_eq_true,List.any_eq_false] at h4;have:=h4 n hn;simp at this;omega
theorem ZJk {h:Heap}{a:Option Addr}{t:ScT}(hO:ScOk t)(m2:ZAN 1 ZCG h a t.travel){i j:Int}(i0:0<=i)(i1:i<t.lands.length)(j0:0<=j)(j1:j<t.lands.length) :
  ∃b o oa,a=some ⟨b,o,oa⟩/\∃b' o' oa' c,ZAc h b (o+i.toNat*1)=some (.slice (some ⟨b',o',oa'⟩) t.lands.length c)/\ZAc h b' (o'+j.toNat*1)=some (i64 (trv t i j))/\i.toNat<t.travel.length /\ -1<=trv t i j/\trv t i j<=60:=by
 obtain⟨hl,hr⟩:=ZLq hO;have hi:i.toNat<t.travel.length:=by omega
 obtain⟨b,o,oa,e,row,hrow,ap,cp,rfl,hI⟩:=m2 i.toNat hi;have hm:=hr _ (List.getElem_mem hi);obtain⟨b',o',oa',rfl,hc⟩:=hI j.toNat (by omega);have hv:trv t i j=t.travel[i.toNat][j.toNat]'(by omega):=by
  unfold trv;rw[List.getD_eq_getElem?_getD (l:=t.travel),List.getElem?_eq_getElem hi,Option.getD_some,List.getD_eq_getElem?_getD,List.getElem?_eq_getElem (by omega),Option.getD_some]
 have hb:=hm.2 _ (List.getElem_mem (show j.toNat<t.travel[i.toNat].length by omega));rw[hv];exact⟨b,o,oa,e,b',o',oa',cp,by rw[<-hm.1];exact ZAR (k:=0) hrow rfl,hc,hi,hb.1,hb.2⟩
theorem ZID {t:ScT}(hO:ScOk t){v:Int}(h0:0<=v)(h1:v<t.venues.length):0<=ZBu t v/\ZBu t v<t.lands.length:=by
 have hv:v.toNat<t.venues.length:=by omega
 have:ZBu t v=t.venues[v.toNat].land:=by unfold ZBu;rw[List.getD_eq_getElem?_getD,List.getElem?_eq_getElem hv];rfl
 have h2:=hO.venues _ (List.getElem_mem hv);rw[this];unfold ZAt at h2
 split at h2
 ·cases h2
 rename_i h3;unfold ZCa at h3;omega
theorem ZOe {t:ScT}(hO:ScOk t){v:Int}(h0:0<=v)(h1:v<t.prints.length):0<=ZFG t v/\ZFG t v<t.lands.length:=by
 have hv:v.toNat<t.prints.length:=by omega
 have:ZFG t v=t.prints[v.toNat].land:=by unfold ZFG;rw[List.getD_eq_getElem?_getD,List.getElem?_eq_getElem hv];rfl
 have h2:=hO.prints _ (List.getElem_mem hv);rw[this];unfold ZAp at h2
 split at h2
 ·cases h2
 split at h2
 ·cases h2
 split at h2
 ·cases h2
 split at h2
 ·rename_i h3;exact absurd h2 h3
 split at h2
 ·cases h2
 rename_i h3;unfold ZCa at h3;omega
theorem ZMs {t:ScT}{x:ScL}(h:ZA3 t x=0):(0<=x.print/\x.print<t.prints.length)/\(0<=x.venue/\x.venue<t.venues.length)/\0<=x.days.lo/\x.days.lo<=x.days.hi/\x.days.hi<=80000:=by
 unfold ZA3 oddS at h
 split at h
 ·cases h
 split at h
 ·cases h
 split at h
 ·cases h
 omega
theorem ZCq {h0 h:Heap}{v:Value}{P:List ScL}(hF:ZAG h0 h v 51 4 (P.flatMap ZAz) P.length):∃a c,v=.slice a P.length c/\ZAN 4 ScLR h a P:=by
 rcases hF with ⟨rfl,_,h0⟩|⟨b,sp,op,rfl,hg,_⟩
 ·rw[h0]
  exact⟨none,0,rfl,fun i hi=>absurd hi (by omega)⟩
 ·refine⟨some ⟨b,0,sp⟩,P.length,rfl,fun i hi=>⟨b,0,sp,rfl,_,ZAd hg ?_,rfl⟩⟩
  rw[Nat.zero_add];exact ZFD (f:=ZAz) (k:=4) hi fun _ _=>rfl
def HsAt (h:Heap)(b:Nat)(t:ScT)(gr:List ScL):Prop:=∃row ag cg vw,ZBX h row t/\h.get b=some (.cells (row++[.slice ag gr.length cg,vw]) 147 false)/\ZAN 4 ScLR h ag gr
theorem ZPa {t:ScT}{home:Int}:∀{l:List ScL}{k:Nat}{at':Int}{fr:Option Int}(hk:k<l.length),goG t home none l=goG t at' fr (l.drop k)->goG t home none l=if ZJR t at' fr l[k]=true then none else goG t (ZBu t l[k].venue) (some l[k].days.hi) (l.drop (k+1)):=by
 intro l k at' fr hk h;rw[h,List.drop_eq_getElem_cons hk,goG]
theorem ZNj {b:Nat}{t:ScT}{gr:List ScL}{x:ScL}{lr:List Value}{h:Heap}(hH:HsAt h b t gr)(hO:ScOk t)(hgr:∀y∈gr,ZA3 t y=0)(hlen:gr.length<=30)(hx:ZA3 t x=0)(hr:ScLR h lr x) :
  Sv Tryz.prog 139 [.pointer (some ⟨b,0,none⟩),.agg ⟨lr⟩] h (RetP fun v h'=>v=.bool (ZD4 t gr x)/\Ext h h'):=by
 obtain⟨row,ag,cg,vw,ht,hg,hG⟩:=hH;obtain⟨al,cl,at',ct,a1,c1,a2,c2,a3,c3,a4,c4,a5,c5,a6,c6,rfl,m1,m2,m3,m4,m5,m6,m7,m8⟩:=ht;replace hg:h.get b=some (.cells [i64 t.first,.slice al t.lands.length cl,.slice at' t.travel.length ct,.slice a1 t.venues.length c1,.slice a2 t.rights.length c2,.slice a3 t.prints.length c3,.slice a4 t.packs.length c4,.slice a5 t.keys.length c5,.slice a6 t.loans.length c6,.slice ag gr.length cg,vw] 147 false):=hg;obtain rfl:=hr;obtain⟨⟨x1,x2⟩,⟨x3,x4⟩,x5,x6,x7⟩:=ZMs hx;obtain⟨y1,y2⟩:=ZOe hO x1 x2;have q1:=hO.lands;have q2:=hO.venues1;have q3:=hO.prints1;obtain⟨tl1,tl2⟩:=ZLq hO
 refine ZAy fun hw=>?_;refine ZAH Tryz.func139 rfl (by rw[Tryz.ntmps139];rfl) ?_;show Wc Tryz.prog ⟨139,121,none⟩ _ _ _ _ _;refine zy ?_;refine ZAa rfl rfl rfl fun h1 hE1 hW1 hg1 hn1=>?_;replace hg:=hE1.get hg;replace m2:=ZAN.ext (R:=ZCG) (fun x y=>ZCG.ext x y) m2 hE1;replace m3:=ZAN.ext (R:=ScVR) (fun x _=>x) m3 hE1;replace m5:=ZAN.ext (R:=ScPR) (fun x y=>ScPR.ext x y) m5 hE1;replace hG:=ZAN.ext (R:=ScLR) (fun x _=>x) hG hE1;generalize h.nx=bx at *;refine zy ?_;refine ZC8 rfl rfl Und.h Tsz.h Zr.h rfl rfl rfl rfl rfl fun h2 hE2 hW2 hg2 hn2=>?_;have hO2:Own h1 h2 [slI h1 (.slice (some ⟨h1.nx,0,none⟩) 1 1) 51 4 ([x].flatMap ZAz) 1]:=(Own.nil h1 h1).newSl hW1 (Nat.le_refl _) hE2 (ZAG.lit hg2 rfl (Nat.le_refl _))
 generalize (Value.slice (some ⟨h1.nx,0,none⟩) 1 1)=v0 at *;clear hg2 hn2;have hgH2:=hE2.get hg;refine zy ?_
 refine ZAT (fun (s:Nat×Value) m ds h'=>ds=[]/\s.1<=gr.length/\Ext h1 h'/\Own h1 h' [slI h1 s.2 51 4 ((x::(gr.take s.1).filter fun g=>decide (g.print=x.print)).flatMap ZAz) (x::(gr.take s.1).filter fun g=>decide (g.print=x.print)).length] ∧
   AllK m [(0,.pointer (some ⟨b,0,none⟩)),(3,.pointer (some ⟨bx,0,none⟩)),(5,s.2),(19,.slice ag gr.length cg),(20,i64 gr.length),(21,i64 s.1)]) (fun s=>gr.length-s.1) (0,v0) ?_ ?_
 ·exact⟨rfl,Nat.zero_le _,hE2,hO2,rfl,rfl,rfl,rfl,rfl,rfl,trivial⟩
 clear hO2 hE2 hW2;rintro⟨k,v⟩ m ds h3 ⟨rfl,hk,hE3,hO3,hall⟩;simp only at hk hO3 hall;have hg1':=hE3.get hg1;refine Wc.le ?_ (Le.kn hall);refine zy ?_;refine ZAE rfl rfl rfl rfl (ZAW rfl rfl) (fun h4=>?_) (fun h4=>?_)
 ·have hk':k<gr.length:=by simpa using h4
  have htk:gr.take (k+1)=gr.take k++[gr[k]]:=by rw[List.take_add_one,List.getElem?_eq_getElem hk'];rfl
  obtain⟨b',o,oa,rfl,row,hrow,hma⟩:=hG k hk';generalize hmk:gr[k]=y at *;obtain rfl:=hma;have hrow3:=hE3.row hrow;refine zy ?_;refine ZAI rfl rfl rfl rfl (A_ix Und.h Tsz.h rfl rfl) ?_;refine zy ?_;refine ZAh rfl rfl Zr.h Tsz.h rfl (fun _=>rfl) rfl rfl rfl fun h5 hE5 hW5 hg5 hn5=>?_;replace hE3:=hE3.trans hE5;replace hO3:=hO3.ext hE5;replace hg1':=hE5.get hg1';generalize h3.nx=by' at *
  refine zy ?_;refine ZAE rfl rfl rfl rfl (ZAX rfl rfl) (fun h6=>?_) (fun h6=>?_)
  ·have hfl:(gr.take (k+1)).filter (fun g=>decide (g.print=x.print))=(gr.take k).filter (fun g=>decide (g.print=x.print))++[y]:=by
    rw[htk,List.filter_append,List.filter_cons,if_pos (by simpa using h6)];rfl
   have hbd:((gr.take k).filter fun g=>decide (g.print=x.print)).length<=30:=by
    refine Nat.le_trans (List.length_filter_le _ _) ?_;rw[List.length_take];omega
   refine zy ?_;refine ZC8 rfl rfl Und.h Tsz.h Zr.h rfl rfl rfl rfl rfl fun h7 hE7 hW7 hg7 hn7=>?_;refine ZBV (k:=1) (l:=ZAz y) hW1 (hE3.trans hE7) rfl rfl rfl rfl rfl Und.h inferInstance rfl rfl (hO3.ext hE7) (ZBC Und.h (by intro k;simp) (ZAd hg7 rfl)) rfl rfl (by simp only[List.length_cons];omega) (by simp only[List.length_cons];omega) fun v8 h8 hW8 hO8 hE8=>?_;refine zy ?_;refine⟨(k+1,v8),?_,rfl,hk',hE8,?_,rfl,rfl,rfl,rfl,rfl,rfl,trivial⟩
   ·show gr.length-(k+1)<gr.length-k;omega
   ·simp only
    rw[hfl]
    simpa [List.flatMap_append] using hO8
  ·have hfl:(gr.take (k+1)).filter (fun g=>decide (g.print=x.print))=(gr.take k).filter (fun g=>decide (g.print=x.print)):=by
    rw[htk,List.filter_append,List.filter_cons,if_neg (by simpa using h6)];simp
   refine zy ?_;refine⟨(k+1,v),?_,rfl,hk',hE3,?_,rfl,rfl,rfl,rfl,rfl,rfl,trivial⟩
   ·show gr.length-(k+1)<gr.length-k;omega
   ·simp only
    rw[hfl];exact hO3
 have hk2:k=gr.length:=by omega
 subst hk2;rw[List.take_length] at hO3;generalize hL:(x::gr.filter fun g=>decide (g.print=x.print))=L at *;have hLok:∀y∈L,ZA3 t y=0:=by
  rw[<-hL];intro y hy
  rcases List.mem_cons.1 hy with rfl|hy
  ·exact hx
  ·exact hgr y ((List.mem_filter.1 hy).1)
 have hLl:L.length<=31:=by
  rw[<-hL,List.length_cons];have:=List.length_filter_le (fun g:ScL=>decide (g.print=x.print)) gr;omega
 refine ZCM fun hw3=>?_;clear hall hk h4;refine zy ?_;refine ZAq rfl rfl rfl rfl rfl Bod.h rfl rfl (ZJ4 hO3.p1 (by omega) (fun p hp=>by have:=ZMs (hLok p hp);omega)) ?_;rintro _ h4 ⟨rfl,Q,hp,hs,hF,hX⟩;have hQl:Q.length=L.length:=hp.length_eq;have hE4:=hO3.grows hX hE3 hW1;have hQok:∀y∈Q,ZA3 t y=0:=fun y hy=>hLok y (hp.subset hy);have hcan:ZD4 t gr x=canG t (ZFG t x.print) Q:=by
  unfold ZD4;refine ZN8 ((ZIw.trans (List.Perm.of_eq hL)).trans hp.symm) ZM6 hs fun y hy=>?_;have:=ZMs (hLok y (by rw[<-hL];exact ZIw.subset hy));omega
 rw[hcan];rw[<-hQl] at hF;obtain⟨aQ,cQ,rfl,hQ⟩:=ZCq hF;have k1:=hE4.get hg;have k2:=hE4.get hg1;clear hO3 hE3 hg1' hp hs hF hX;have n2:=ZAN.ext (R:=ZCG) (fun x y=>ZCG.ext x y) m2 hE4;have n3:=ZAN.ext (R:=ScVR) (fun x _=>x) m3 hE4;have n5:=ZAN.ext (R:=ScPR) (fun x y=>ScPR.ext x y) m5 hE4;obtain⟨bp,op,oap,rfl,hcp⟩:=ZLN n5 x1 x2;generalize hhm:ZFG t x.print=hm at *;refine zy ?_;refine ZAJ hmix [0,1,3,7,15,31,0,64,255,511,1023,2047,4095] [0,1,2,3,4,5,6,7,8,9,10] (some 11) [([],(some 12)),([],none)] (by kernel_rfl) (by kernel_rfl) ?_;refine z_m ?_;refine z_q ?_;refine z_f ?_;refine z_f ?_;refine z_f ?_;refine z_l ?_;refine z_f ?_;refine z_l ?_;refine ZAB rfl rfl rfl rfl rfl (fun _=>ZAK (k:=x.print.toNat) Und.h Tsz.h rfl rfl (by omega) (by omega)) ?_;refine z_f ?_;refine z_l ?_
 refine ZAF [0,1,2,3,4,5,6,7,8,9,10] (by kernel_rfl) rfl (ZAA rfl) rfl nb rfl (ZAj rfl rfl (ZAO rfl) ?_);refine ZAF [0,1,2,3,4,5,6,7,8,9,10,11] (by kernel_rfl) rfl (ZAA rfl) rfl nb rfl (ZAj rfl rfl (ZAO rfl) ?_);refine ZAM (ZAA rfl) nb' ?_;refine zy ?_
 refine ZAT (fun (s:Nat×Int×Int) m ds h'=>ds=[]/\s.1<=Q.length/\Ext h1 h'/\ZAN 4 ScLR h' aQ Q/\(0<=s.2.1/\s.2.1<t.lands.length)/\(-1<=s.2.2/\s.2.2<=80000)/\goG t hm none Q=goG t s.2.1 (if s.1=0 then none else some s.2.2) (Q.drop s.1) ∧
   AllK m [(0,.pointer (some ⟨b,0,none⟩)),(3,.pointer (some ⟨bx,0,none⟩)),(8,i64 s.2.1),(9,i64 s.2.2),(48,.slice aQ Q.length cQ),(49,i64 Q.length),(50,i64 s.1)]) (fun s=>Q.length-s.1) (0,hm,-1) ?_ ?_
 ·exact⟨rfl,Nat.zero_le _,hE4,hQ,⟨y1,y2⟩,⟨show (-1:Int) <= -1 by decide,show (-1:Int)<=80000 by decide⟩,rfl,rfl,rfl,rfl,rfl,rfl,rfl,rfl,trivial⟩
 clear n2 n3 n5 k1 k2 hQ hcp;clear hE4;rintro⟨k,at1,fr⟩ m ds h5 ⟨rfl,hk,hE5,hQ,⟨z1,z2⟩,⟨z3,z4⟩,hgo,hall⟩;refine ZDG fun hw5=>?_;simp only at hk z1 z2 z3 z4 hgo hall;have k1:=hE5.get hg;have k2:=hE5.get hg1;have n2:=ZAN.ext (R:=ZCG) (fun x y=>ZCG.ext x y) m2 hE5;have n3:=ZAN.ext (R:=ScVR) (fun x _=>x) m3 hE5;refine Wc.le ?_ (Le.kn hall);refine zy ?_;refine ZAE rfl rfl rfl rfl (ZAW rfl rfl) (fun h6=>?_) (fun h6=>?_)
 ·have hk':k<Q.length:=by simpa using h6
  replace hgo:=ZPa hk' hgo;have hyk:=hQok _ (List.getElem_mem hk');obtain⟨bq,oq,oaq,rfl,row,hrow,hma⟩:=hQ k hk';generalize hmk:Q[k]=y at *;obtain rfl:=hma;obtain⟨⟨w1,w2⟩,⟨w3,w4⟩,w5,w6,w7⟩:=ZMs hyk;obtain⟨w8,w9⟩:=ZID hO w3 w4;refine zy ?_;refine ZAI rfl rfl rfl rfl (A_ix Und.h Tsz.h rfl rfl) ?_;refine zy ?_;refine ZCD rfl rfl Zr.h fun h61 hE61 hW61 hg61 hn61=>?_;refine zy ?_;refine ZBF rfl Tsz.h rfl rfl hg61 rfl rfl rfl fun h7 hU7=>?_;have hE7:=hU7.ext hE61 hw5 (Nat.le_refl _);have hg7:=hU7.at';clear hU7 hg61 hn61 hW61 hE61;replace hE5:=hE5.trans hE7;replace k1:=hE7.get k1;replace k2:=hE7.get k2
  replace n2:=ZAN.ext (R:=ZCG) (fun x y=>ZCG.ext x y) n2 hE7;replace n3:=ZAN.ext (R:=ScVR) (fun x _=>x) n3 hE7;replace hQ:=ZAN.ext (R:=ScLR) (fun x _=>x) hQ hE7;generalize h5.nx=by' at *
  obtain⟨bv,ov,oav,rfl,hcv⟩:=ZJS n3 w3 w4;obtain⟨bt,ot,oat,rfl,bt',ot',oat',ct',hct,hct',u1,u2,u3⟩:=ZJk hO n2 z1 z2 w8 w9;generalize hvl:ZBu t y.venue=vl at *;generalize htr:trv t at1 vl=n at *;have hst:ZJR t at1 (if k=0 then none else some fr) y=(decide (n<0) || decide (0<k/\y.days.lo-fr<=n)):=by
   unfold ZJR;rw[hvl,htr]
   by_cases c:k=0
   ·simp[c]
   ·rw[if_neg c];simp[Nat.pos_of_ne_zero c]
  rw[hst] at hgo;refine zy ?_;refine ZAJ hmix [0,1,3,7,15,31,0,64,255,511,1023,2047] [0,1,2,3,4,5,6,7,8,9,10] (some 11) [([],none)] (by kernel_rfl) (by kernel_rfl) ?_;refine z_m ?_;refine z_q ?_;refine z_f ?_;refine z_f ?_;refine z_f ?_;refine z_l ?_;refine z_f ?_;refine z_l ?_;refine ZAB rfl rfl rfl rfl rfl (fun _=>ZAK (k:=y.venue.toNat) Und.h Tsz.h rfl rfl (by omega) (by omega)) ?_;refine z_f ?_;refine z_l ?_;refine ZAF [0,1,2,3,4,5,6,7,8,9,10] (by kernel_rfl) rfl (ZAA rfl) rfl nb rfl (ZAj rfl rfl (ZAO rfl) ?_);refine ZAM (ZAA rfl) nb' ?_;refine zy ?_;refine ZAI rfl rfl rfl rfl (ZAK (k:=at1.toNat) Und.h Tsz.h rfl rfl (by omega) (by omega)) ?_
  refine zy ?_;refine ZAI rfl rfl rfl rfl (ZAK (k:=vl.toNat) Und.h Tsz.h rfl rfl (by omega) (by omega)) ?_;refine zy ?_;refine ZAE rfl rfl rfl rfl (ZAW rfl rfl) (fun h8=>?_) (fun h8=>?_)
  ·refine zy ?_
   refine ZAC (ZAD rfl ⟨?_,hE1.trans hE5⟩);rw[decide_eq_true h8,Bool.true_or,if_pos rfl] at hgo;unfold canG;rw[hgo];rfl
  refine zy ?_;refine ZAE rfl rfl rfl rfl (ZB0 rfl rfl) (fun h9=>?_) (fun h9=>?_)
  ·refine zy ?_
   refine ZAE rfl rfl rfl rfl (ZD7 rfl rfl) (fun h10=>?_) (fun h10=>?_)
   ·refine zy ?_
    refine ZAC (ZAD rfl ⟨?_,hE1.trans hE5⟩);rw[decide_eq_true (show 0<k/\y.days.lo-fr<=n from⟨by omega,h10⟩),Bool.or_true,if_pos rfl] at hgo;unfold canG;rw[hgo];rfl
   rw[decide_eq_false h8,decide_eq_false (fun e=>h10 e.2),Bool.or_false,if_neg (by decide)] at hgo;refine zy ?_;refine ZAJ hmix [0,0,2,6,1,31] [0,1,2,3] (some 4) [([],(some 5)),([],none)] (by kernel_rfl) (by kernel_rfl) ?_;refine z_m ?_;refine z_f ?_;refine z_f ?_;refine z_l ?_;refine ZAF [0] (by kernel_rfl) rfl (ZAA rfl) rfl nb rfl (ZAj rfl rfl (ZAO rfl) ?_);refine ZAF [0,1,2,3,4] (by kernel_rfl) rfl (by refine t_l 3 ?_;refine t_f 2 ?_;refine t_f 1 ?_;exact ZAA rfl) rfl nb rfl (ZAj rfl rfl (ZAO rfl) ?_);refine ZAM (ZAA rfl) nb' ?_;refine zy ?_;refine⟨(k+1,vl,y.days.hi),?_,rfl,hk',hE5,hQ,⟨w8,w9⟩,⟨by show -1<=y.days.hi;omega,w7⟩,hgo,rfl,rfl,rfl,rfl,rfl,rfl,rfl,trivial⟩
   show Q.length-(k+1)<Q.length-k;omega
  ·rw[decide_eq_false h8,decide_eq_false (fun e=>h9 (by omega)),Bool.or_false,if_neg (by decide)] at hgo
   refine zy ?_;refine ZAJ hmix [0,0,2,6,1,31] [0,1,2,3] (some 4) [([],(some 5)),([],none)] (by kernel_rfl) (by kernel_rfl) ?_;refine z_m ?_;refine z_f ?_;refine z_f ?_;refine z_l ?_;refine ZAF [0] (by kernel_rfl) rfl (ZAA rfl) rfl nb rfl (ZAj rfl rfl (ZAO rfl) ?_);refine ZAF [0,1,2,3,4] (by kernel_rfl) rfl (by refine t_l 3 ?_;refine t_f 2 ?_;refine t_f 1 ?_;exact ZAA rfl) rfl nb rfl (ZAj rfl rfl (ZAO rfl) ?_);refine ZAM (ZAA rfl) nb' ?_;refine zy ?_;refine⟨(k+1,vl,y.days.hi),?_,rfl,hk',hE5,hQ,⟨w8,w9⟩,⟨by show -1<=y.days.hi;omega,w7⟩,hgo,rfl,rfl,rfl,rfl,rfl,rfl,rfl,trivial⟩
   show Q.length-(k+1)<Q.length-k;omega
 have hk2:k=Q.length:=by omega
 rw[hk2,List.drop_length,goG] at hgo;have hfin:canG t hm Q=decide (0<=trv t at1 hm):=by unfold canG;rw[hgo]
 rw[hfin];have n5:=ZAN.ext (R:=ScPR) (fun x y=>ScPR.ext x y) m5 hE5;obtain⟨bp',op',oap',e',hcp⟩:=ZLN n5 x1 x2;cases e';rw[hhm] at hcp;obtain⟨bt,ot,oat,rfl,bt',ot',oat',ct',hct,hct',u1,u2,u3⟩:=ZJk hO n2 z1 z2 y1 y2;generalize htr:trv t at1 hm=n at *;refine zy ?_;refine ZAJ hmix [0,1,3,7,15,31,0,127,255,0,512,1536,3584,7680,15872,0,32768,130560,261632,523776,1048575,2097151,4194303,8388607] [0,1,2,3,4,5,6,7,8,9,10,11,12,13,14,15,16,17,18,19,20,21,22] (some 23) [([],none)] (by kernel_rfl) (by kernel_rfl) ?_;refine z_m ?_;refine z_q ?_;refine z_f ?_;refine z_f ?_;refine z_f ?_;refine z_l ?_;refine z_m ?_;refine ZAB rfl rfl rfl rfl rfl (fun _=>ZAK (k:=at1.toNat) Und.h Tsz.h rfl rfl (by omega) (by omega)) ?_;refine z_l ?_;refine z_m ?_;refine z_q ?_;refine z_f ?_;refine z_f ?_;refine z_f ?_;refine z_l ?_;refine z_f ?_;refine z_l ?_;refine ZAB rfl rfl rfl rfl rfl (fun _=>ZAK (k:=x.print.toNat) Und.h Tsz.h rfl rfl (by omega) (by omega)) ?_;refine z_f ?_;refine z_l ?_;refine ZAB rfl rfl rfl rfl rfl (fun _=>ZAK (k:=hm.toNat) Und.h Tsz.h rfl rfl (by omega) (by omega)) ?_;refine z_l ?_;refine ZAB rfl rfl rfl rfl rfl (fun _=>ZDX rfl rfl) ?_
 refine ZAF [0,1,2,3,4,5,6,7,8,9,10,11,12,13,14,15,16,17,18,19,20,21,22] (by kernel_rfl) rfl (ZAA rfl) rfl nb rfl (ZAj rfl rfl (ZAO rfl) ?_);refine ZAM (ZAA rfl) nb' ?_;refine zy ?_;exact ZAC (ZAD rfl ⟨rfl,hE1.trans hE5⟩)
def lpre (t:ScT)(k:Nat):List ScL×List Int:=(t.loans.take k).foldl (fun s x=>if ZD4 t s.1 x=true then (s.1++[x],s.2++[0]) else (s.1,s.2++[210])) ([],[])
theorem ZGb (t:ScT):lpre t t.loans.length=ZBa t:=by unfold lpre ZBa;rw[List.take_length]
theorem ZHE {t:ScT}{k:Nat}(hk:k<t.loans.length):lpre t (k+1)=if ZD4 t (lpre t k).1 t.loans[k]=true then ((lpre t k).1++[t.loans[k]],(lpre t k).2++[0]) else ((lpre t k).1,(lpre t k).2++[210]):=by
 unfold lpre;have:t.loans.take (k+1)=t.loans.take k++[t.loans[k]]:=by rw[List.take_add_one,List.getElem?_eq_getElem hk];rfl
 rw[this,List.foldl_append];rfl
theorem ZHT {t:ScT}(hO:ScOk t):∀{k:Nat},k<=t.loans.length->(∀y∈(lpre t k).1,ZA3 t y=0)/\(lpre t k).1.length<=k/\(lpre t k).2.length=k
 | 0,_=>⟨(fun _ h=>nomatch h),Nat.le_refl _,rfl⟩
 | k+1,hk=>by
  obtain⟨h1,h2,h3⟩:=ZHT hO (k:=k) (by omega);rw[ZHE (by omega)]
  split
  ·refine⟨fun y hy=>?_,by simp;omega,by simp;omega⟩
   rcases List.mem_append.1 hy with g|g
   ·exact h1 y g
   ·rw[List.mem_singleton.1 g];exact hO.loans _ (List.getElem_mem _)
  ·exact⟨h1,Nat.le_succ_of_le h2,by simp;omega⟩
def ZCu (h:Heap)(b:Nat)(t:ScT):Prop:=∃row ag cg aw cw,ZBX h row t/\h.get b=some (.cells (row++[.slice ag (ZBa t).1.length cg,.slice aw (ZBa t).2.length cw]) 147 false)/\ZAN 4 ScLR h ag (ZBa t).1/\ZBz h aw (ZBa t).2
theorem ZCu.ext {h h':Heap}{b:Nat}{t:ScT}(a:ZCu h b t)(he:Ext h h'):ZCu h' b t:=by
 obtain⟨row,ag,cg,aw,cw,h1,h2,h3,h4⟩:=a;exact⟨row,ag,cg,aw,cw,h1.ext he,he.get h2,ZAN.ext (R:=ScLR) (fun x _=>x) h3 he,h4.ext he⟩
def ZSc (t:ScT)(h:Heap)(v:Value)(h':Heap):Prop:=Ext h h'/\((¬ZCU t=0/\v=.tuple ⟨[.pointer none,i64 (ZCU t)]⟩)\/(ZCU t=0/\∃b,v=.tuple ⟨[.pointer (some ⟨b,0,none⟩),i64 0]⟩/\ZCu h' b t))
theorem ZR1 (x0 x1 x2 x3 x4 x5 x6 x7 x8:Value) :
  Instr.fill ([(0,9),(9,1),(10,1)].toArray[·]?) (Value.agg ⟨[i64 0,.slice none 0 0,.slice none 0 0,.slice none 0 0,.slice none 0 0,.slice none 0 0,.slice none 0 0,.slice none 0 0,.slice none 0 0,.slice none 0 0,.slice none 0 0]⟩).cells [(0,.agg ⟨[x0,x1,x2,x3,x4,x5,x6,x7,x8]⟩)]=some ⟨[x0,x1,x2,x3,x4,x5,x6,x7,x8,.slice none 0 0,.slice none 0 0]⟩:=by kernel_rfl
set_option maxHeartbeats 1000000 in
theorem ZRo {tc:List Value}{t:ScT}{h:Heap}(ht:ZBX h tc t)(hT:t.Fit):Sv Tryz.prog 83 [.agg ⟨tc⟩] h (RetP (ZSc t h)):=by
 have ht0:=ht;obtain⟨al,cl,at',ct,a1,c1,a2,c2,a3,c3,a4,c4,a5,c5,a6,c6,rfl,-,-,-,-,-,-,-,m8⟩:=ht;refine ZAy fun hw=>?_;refine ZAH Tryz.func83 rfl (by rw[Tryz.ntmps83];rfl) ?_;show Wc Tryz.prog ⟨83,63,none⟩ _ _ _ _ _;refine zy ?_;refine ZAa rfl rfl rfl fun h1 hE1 hW1 hg1 hn1=>?_;generalize h.nx=b1 at *;refine zy ?_;refine ZAS rfl rfl rfl rfl rfl Bod.h rfl rfl (ZNQ (ht0.ext hE1) hT) fun h2 hE2=>?_;replace hg1:=hE2.get hg1;replace hE1:=hE1.trans hE2;refine zy ?_;refine ZAE rfl rfl rfl rfl (ZAb rfl rfl) (fun h3=>?_) (fun h3=>?_)
 ·refine zy ?_
  exact ZAC (ZAD rfl ⟨hE1,.inl ⟨h3,rfl⟩⟩)
 replace h3:ZCU t=0:=Decidable.not_not.1 h3;have hO:=ZOM h3;have hll:=hO.loans1;refine ZCM fun hw2=>?_;clear hW1 hE2 hn1;clear h1;replace m8:=ZAN.ext (R:=ScLR) (fun x _=>x) m8 hE1;replace ht0:=ht0.ext hE1;refine zz ?_;refine ZAI rfl rfl rfl rfl (ZED rfl (ZRt _ _ _ _ _ _ _ _ _)) ?_;refine ZAI rfl rfl rfl rfl (ZED rfl (ZR1 _ _ _ _ _ _ _ _ _)) ?_;refine ZAa rfl rfl rfl fun h4 hE4 hW4 hg4 hn4=>?_;have hO4:=(((Own.nil h2 h2).nilSl 32 1).nilSl 51 4).newCe hw2 (Nat.le_refl _) hE4 hg4 (Nat.le_refl _);generalize h2.nx=bH at *;replace hg1:=hE4.get hg1;clear hg4 hn4;refine zy ?_
 refine ZAT (fun (s:Nat×Value×Value) m ds h'=>ds=[]/\s.1<=t.loans.length/\Ext h2 h'/\Own h2 h' [ceI bH [i64 t.first,.slice al t.lands.length cl,.slice at' t.travel.length ct,.slice a1 t.venues.length c1,.slice a2 t.rights.length c2,.slice a3 t.prints.length c3,.slice a4 t.packs.length c4,.slice a5 t.keys.length c5,.slice a6 t.loans.length c6,s.2.1,s.2.2] 147 false,slI h2 s.2.1 51 4 ((lpre t s.1).1.flatMap ZAz) (lpre t s.1).1.length,slI h2 s.2.2 32 1 ((lpre t s.1).2.map i64) (lpre t s.1).2.length] ∧
   AllK m [(7,.pointer (some ⟨bH,0,none⟩)),(24,.slice a6 t.loans.length c6),(25,i64 t.loans.length),(26,i64 s.1)]) (fun s=>t.loans.length-s.1) (0,.slice none 0 0,.slice none 0 0) ?_ ?_
 ·exact⟨rfl,Nat.zero_le _,hE4,hO4,rfl,rfl,rfl,rfl,trivial⟩
 clear hO4 hE4 hW4 hg1;clear h4;rintro⟨k,vg,vw⟩ m ds h5 ⟨rfl,hk,hE5,hO5,hall⟩;simp only at hk hO5 hall;obtain⟨p1,p2,p3⟩:=ZHT hO hk;refine ZDG fun hw5=>?_;refine Wc.le ?_ (Le.kn hall);refine zy ?_;refine ZAE rfl rfl rfl rfl (ZAW rfl rfl) (fun h6=>?_) (fun h6=>?_)
 ·have hk':k<t.loans.length:=by simpa using h6
  have hls:=ZHE hk';have hxok:=hO.loans _ (List.getElem_mem hk');obtain⟨b',o,oa,rfl,row,hrow,hma⟩:=m8 k hk';generalize hmk:t.loans[k]=x at *;obtain rfl:=hma;have hrow5:=hE5.row hrow;generalize hG:(lpre t k).1=G at *;generalize hW:(lpre t k).2=W at *;refine zy ?_;refine ZAI rfl rfl rfl rfl (A_ix Und.h Tsz.h rfl rfl) ?_;refine zy ?_;refine ZAh rfl rfl Zr.h Tsz.h rfl (fun _=>rfl) rfl rfl rfl fun h7 hE7 hW7 hg7 hn7=>?_;replace hE5:=hE5.trans hE7;replace hO5:=hO5.ext hE7;generalize h5.nx=bl at *;obtain⟨ag,cg,rfl,hGr⟩:=ZCq (show ZAG h2 h7 vg 51 4 _ _ from hO5.at 1 rfl);refine zy ?_;refine ZAn rfl rfl rfl rfl rfl Bod.h rfl rfl (ZNj ⟨_,ag,cg,vw,ht0.ext hE5,hO5.p1,hGr⟩ hO p1 (by omega) hxok rfl) (fun h8 h9 hE9=>?_) (fun h8 h9 hE9=>?_)
  ·rw[if_pos h8] at hls
   have hgl:(G++[x]).length=G.length+1:=by simp
   have hgm:(G++[x]).flatMap ZAz=G.flatMap ZAz++ZAz x:=by simp[List.flatMap_append]
   have hwl:(W++[(0:Int)]).length=W.length+1:=by simp
   have hwm:(W++[(0:Int)]).map i64=W.map i64++[i64 0]:=by simp
   replace hE5:=hE5.trans hE9;replace hO5:=hO5.ext hE9;replace hg7:=hE9.get hg7;refine ZCM fun hw9=>?_;have hEa:Ext h9 (rsv (Heap.add h9 (.cells (ZAz x) 51 false))):=(Ext.add hw9 _).trans (Ext.rsv _);have hO9:=hO5.pick 1 rfl;have hne:=hO9.ne hw9 (Nat.le_succ h9.nx);have hn9:=hE5.2.1;have kH:h9.get bH=_:=hO5.p1;have kHa:=hEa.get kH;refine zy ?_;refine ZAJ hmix [0,0,0,4,12,28,0,64,252,0,512,1536,3584,0,16380,32765,65533,131069,262143,524287,1048575] [0,1,2,3,4,5,6,7,9,10,11,12,13] (some 8) [([],(some 14)),([15,16],(some 17)),([18,19],(some 20)),([],none)] (by kernel_rfl) (by kernel_rfl) ?_;refine z_m ?_;refine z_m ?_;refine z_m ?_;refine z_q ?_;refine z_f ?_;refine z_l ?_;refine z_r ?_
   refine ZCb (nk:=.sl _ _) rfl rfl rfl rfl rfl (fun _ _ hs=>N_bs hs Und.h Tsz.h Zr.h rfl rfl rfl rfl rfl) ?_;refine z_m ?_;refine z_q ?_;refine z_f ?_;refine z_l ?_;refine ZCb (nk:=.sl _ _) rfl rfl rfl rfl rfl (fun _ _ hs=>N_bs hs Und.h Tsz.h Zr.h rfl rfl rfl rfl rfl) ?_;refine ZAF (h1:=(rsv (Heap.add h9 _))) [2,3,4,5,6,7] (by kernel_rfl) rfl (ZAA rfl) rfl rfl rfl (ZBS (ZFq (n1:=h9.nx+1) (by':=32) (sz:=4) (k:=1) (n:=G.length) (l:=ZAz x) rfl hw2 (hE5.trans hEa) rfl rfl rfl rfl Und.h inferInstance rfl rfl (hO9.ext hEa) ((ZAG.lit (h0:=h2) (n:=1) (sz:=4) ((Ext.rsv _).get Heap.get_add_same) rfl hn9).src (dd:=.slice 51) Und.h (by intro k;simp)) rfl rfl (by omega) (by omega) hne (Nat.lt_succ_self _) (fun v12 h12 hO13 hE12 hne12 hn12 hw12=>?_)))
   have hU12:=Upd.mk' h12 (h9.nx+1) (.cells [i64 0] 32 false);have hO13':=hO13.other (.cells [i64 0] 32 false) hne12;have hE12':=hU12.ext hE12 hw2 (Nat.le_succ_of_le hn9);rw[<-hgl,<-hgm] at hO13';have hO14:=hO13'.unpick 1 (Nat.le_of_ble_eq_true rfl);have kH12:h12.get bH=_:=hO13.p2;have kH13:(h12.set (h9.nx+1) (.cells [i64 0] 32 false)).get bH=_:=hO13'.p2;refine ZAF (h1:=(h12.set (h9.nx+1) (.cells [i64 0] 32 false))) [2,3,4,5,6,7,8,9,10,11,12,13] (by kernel_rfl) rfl (by refine ZK9 (i:=13) (nk:=.sl _ _) rfl rfl rfl rfl rfl (fun _ _ hs=>N_bs hs Und.h Tsz.h Zr.h rfl rfl rfl rfl rfl) rfl ?_;refine t_l 12 ?_;refine t_f 11 ?_;refine t_q 10 ?_;refine t_m 9 ?_;refine t_m 1 ?_;refine t_m 0 ?_;exact ZAA rfl) rfl rfl rfl (ZBS (ZDW (by':=8) (sz:=1) (k:=1) (n:=W.length) (l:=[i64 0]) rfl hw2 hE12' rfl rfl rfl rfl Und.h inferInstance rfl rfl (hO14.pick 2 rfl) ((ZAG.lit (h0:=h2) (n:=1) (sz:=1) hU12.at' rfl (Nat.le_succ_of_le hn9)).src (dd:=.slice 32) Und.h (by intro k;simp)) rfl rfl (by omega) (by omega) (fun v14 h14 hO15 hE14 hw14=>?_)))
   rw[<-hwl,<-hwm] at hO15;have hO16:=hO15.unpick 2 (Nat.le_of_ble_eq_true rfl);obtain⟨bu,spu,rfl⟩:=ZIx (show ZAG h2 h14 v12 51 4 _ _ from hO16.at 1 rfl) (by rw[hgl];exact Nat.succ_pos _);obtain⟨bv,spv,rfl⟩:=ZIx (show ZAG h2 h14 v14 32 1 _ _ from hO16.at 2 rfl) (by rw[hwl];exact Nat.succ_pos _);refine z_q ?_;refine z_f ?_;refine ZAF (h1:=h14) [0,2,3,4,5,6,7,8,9,10,11,12,13,14,15,16] (by kernel_rfl) rfl (by refine t_m 1 ?_;refine t_m 0 ?_;exact ZAA rfl) rfl rfl rfl (ZBS (ZKQ rfl hw2 hE14 rfl Tsz.h rfl rfl hO16 rfl rfl rfl (fun h15 hO17 hE15 hw15=>?_)));refine z_q ?_;refine z_f ?_;refine ZAF (h1:=h15) [0,1,2,3,4,5,6,7,8,9,10,11,12,13,14,15,16,17,18,19] (by kernel_rfl) rfl (by refine t_m 1 ?_;exact ZAA rfl) rfl rfl rfl (ZBS (ZKQ rfl hw2 hE15 rfl Tsz.h rfl rfl hO17 rfl rfl rfl (fun h16 hO18 hE16 hw16=>?_)))
   refine ZAM (h1:=h16) (ZAA rfl) rfl ?_;refine zy ?_;refine⟨(k+1,.slice (some ⟨bu,0,spu⟩) (G++[x]).length (G++[x]).length,.slice (some ⟨bv,0,spv⟩) (W++[(0:Int)]).length (W++[(0:Int)]).length),?_,rfl,hk',hE16,?_,rfl,rfl,rfl,rfl,trivial⟩
   ·show t.loans.length-(k+1)<t.loans.length-k;omega
   ·simp only[hls];exact hO18
  ·rw[if_neg (by rw[h8];simp)] at hls
   have hwl:(W++[(210:Int)]).length=W.length+1:=by simp
   have hwm:(W++[(210:Int)]).map i64=W.map i64++[i64 210]:=by simp
   replace hE5:=hE5.trans hE9;replace hO5:=hO5.ext hE9;have kH:h9.get bH=_:=hO5.p1;refine zy ?_;refine ZC8 rfl rfl Und.h Tsz.h Zr.h rfl rfl rfl rfl rfl fun h12 hE12 hW12 hg12 hn12=>?_;refine ZBV (k:=1) (l:=[i64 210]) hw2 (hE5.trans hE12) rfl rfl rfl rfl rfl Und.h inferInstance rfl rfl ((hO5.ext hE12).pick 2 rfl) (ZBC Und.h (by intro k;simp) (ZAd hg12 rfl)) rfl rfl (by omega) (by omega) fun v13 h13 hW13 hO13 hE13=>?_;rw[<-hwl,<-hwm] at hO13;have hO16:=hO13.unpick 2 (Nat.le_of_ble_eq_true rfl);obtain⟨bv,spv,rfl⟩:=ZIx (show ZAG h2 h13 v13 32 1 _ _ from hO16.at 2 rfl) (by rw[hwl];exact Nat.succ_pos _)
   refine zy ?_;refine ZNb hw2 hE13 rfl Tsz.h rfl rfl hO16 rfl rfl rfl fun h16 hW16 hO18 hE16=>?_;refine zy ?_;refine⟨(k+1,.slice ag G.length cg,.slice (some ⟨bv,0,spv⟩) (W++[(210:Int)]).length (W++[(210:Int)]).length),?_,rfl,hk',hE16,?_,rfl,rfl,rfl,rfl,trivial⟩
   ·show t.loans.length-(k+1)<t.loans.length-k;omega
   ·simp only[hls];exact hO18
 have hk2:k=t.loans.length:=by omega
 subst hk2;rw[ZGb] at hO5;obtain⟨ag,cg,rfl,hGr⟩:=ZCq (show ZAG h2 h5 vg 51 4 _ _ from hO5.at 1 rfl);obtain⟨aw,rfl,-,hWr⟩:=ZAG.list (enc:=i64) (show ZAG h2 h5 vw 32 1 _ _ from hO5.at 2 rfl);refine zy ?_;exact ZAC (ZAD rfl ⟨hE1.trans hE5,.inr ⟨h3,bH,rfl,_,ag,cg,aw,_,ht0.ext hE5,hO5.p1,hGr,hWr⟩⟩)
theorem ZBJ {a lo hi:Int}(h:decide (lo<=a/\a<=hi)=false):a<lo\/hi<a:=by have:=of_decide_eq_false h;omega
theorem ZBI {a lo hi:Int}(h:decide (lo<=a/\a<=hi)=true):¬(a<lo\/hi<a):=by have:=of_decide_eq_true h;omega
theorem ZDY (s:Sp)(lo hi:Int)(h:Heap):Sv Tryz.prog 82 [.agg ⟨[i64 s.lo,i64 s.hi]⟩,i64 lo,i64 hi] h (RetP fun v h'=>v=i64 (oddS s lo hi)/\Ext h h'):=by
 refine ZAy fun hw=>?_;refine ZAH Tryz.func82 rfl (by rw[Tryz.ntmps82];rfl) ?_;show Wc Tryz.prog ⟨82,26,none⟩ _ _ _ _ _;refine zy ?_;refine ZAa rfl rfl rfl fun h1 hE1 hW1 hg1 hn1=>?_;generalize h.nx=b1 at *;refine zy ?_;refine ZAP rfl rfl rfl rfl rfl Bod.h rfl rfl (ZBb _ _ _ _) (fun h2=>?_) (fun h2=>?_);rotate_left
 ·refine zy ?_
  exact ZAC (ZAD rfl ⟨by rw[oddS,if_pos (.inl (ZBJ h2))];rfl,hE1⟩)
 refine zy ?_;refine ZAP rfl rfl rfl rfl rfl Bod.h rfl rfl (ZBb _ _ _ _) (fun h3=>?_) (fun h3=>?_);rotate_left
 ·refine zy ?_
  exact ZAC (ZAD rfl ⟨by rw[oddS,if_pos (.inr (ZBJ h3))];rfl,hE1⟩)
 have hn:¬((s.lo<lo\/hi<s.lo)\/(s.hi<lo\/hi<s.hi)):=fun x=>x.elim (ZBI h2) (ZBI h3);refine zy ?_;refine ZAE rfl rfl rfl rfl (ZB0 rfl rfl) (fun h4=>?_) (fun h4=>?_)
 ·refine zy ?_
  exact ZAC (ZAD rfl ⟨by rw[oddS,if_neg hn,if_pos h4];rfl,hE1⟩)
 refine zy ?_;exact ZAC (ZAD rfl ⟨by rw[oddS,if_neg hn,if_neg h4];rfl,hE1⟩)
theorem ZEH {a:Option Addr}{cap:Nat}{l:List (List UInt8)}{s:List UInt8}{h:Heap}(hl:ZF8 h a l)(hn:Len s)(hlen:Len l):Sv Tryz.prog 76 [str s,.slice a l.length cap] h (RetP fun v h'=>v=i64 (ZAe s l)/\h'=h):=by
 refine ZAH Tryz.func76 rfl (by rw[Tryz.ntmps76];rfl) ?_;show Wc Tryz.prog ⟨76,21,none⟩ _ _ _ _ _;refine zy ?_;refine ZAP rfl rfl rfl rfl rfl Bod.h rfl rfl (ZCQ s h hn) (fun h1=>?_) (fun h1=>?_);rotate_left
 ·refine zy ?_
  exact ZAC (ZAD rfl ⟨by simp[ZAe,h1];rfl,rfl⟩)
 refine zy ?_;refine ZAT (fun (k:Nat) m ds h'=>ds=[]/\h'=h/\k<=l.length/\(∀j (hj:j<l.length),j<k->l[j]≠s)/\AllK m [(0,str s),(1,.slice a l.length cap),(5,i64 k)]) (fun k=>l.length-k) 0 ?_ ?_
 ·exact⟨rfl,rfl,Nat.zero_le _,(fun _ _ hj=>by omega),rfl,rfl,rfl,trivial⟩
 rintro k m ds h' ⟨rfl,rfl,hk,hno,hall⟩;refine Wc.le ?_ (Le.kn hall);refine zy ?_;refine ZAE rfl rfl rfl rfl (ZAW rfl rfl) (fun h3=>?_) (fun h3=>?_)
 ·have hk':k<l.length:=by simpa using h3
  obtain⟨b,o,oa,rfl,hc⟩:=hl k hk';refine zy ?_;refine ZAI rfl rfl rfl rfl (A_ix Und.h Tsz.h rfl rfl) ?_;refine zy ?_;refine ZAE rfl rfl rfl rfl (ZAf rfl rfl) (fun h4=>?_) (fun h4=>?_)
  ·refine zy ?_
   refine ZAC (ZAD rfl ⟨?_,rfl⟩);have:s∈l:=by rw[<-h4];exact List.getElem_mem hk'
   simp[ZAe,h1,this];rfl
  ·refine zy ?_
   refine⟨k+1,?_,rfl,rfl,hk',?_,rfl,rfl,rfl,trivial⟩
   ·show l.length-(k+1)<l.length-k;omega
   ·intro j hj hlt
    rcases Nat.lt_or_ge j k with g|g
    ·exact hno j hj g
    ·have:j=k:=by omega
     subst this;exact h4
 ·refine zy ?_
  refine ZAC (ZAD rfl ⟨?_,rfl⟩)
  have:s ∉ l:=fun hm=>by
   obtain⟨j,hj,e⟩:=List.getElem_of_mem hm;exact hno j hj (by omega) e
  simp[ZAe,h1,this];rfl
theorem ZJ1 {tc:List Value}{t:ScT}{h:Heap}(ht:ZBX h tc t)(hT:t.Fit):Sv Tryz.prog 77 [.agg ⟨tc⟩] h (RetP fun r h'=>r=i64 (ZBB t)/\Ext h h'):=by
 obtain⟨al,cl,at',ct,a1,c1,a2,c2,a3,c3,a4,c4,a5,c5,a6,c6,rfl,-,hTv,-⟩:=ht;have hL:=hT.lands;have hL2:=hT.travel;refine ZAy fun hw=>?_;refine ZAH Tryz.func77 rfl (by rw[Tryz.ntmps77];rfl) ?_;show Wc Tryz.prog ⟨77,51,none⟩ _ _ _ _ _;refine zy ?_;refine ZAa rfl rfl rfl fun h1 hE1 hW1 hg1 hn1=>?_;replace hTv:=ZAN.ext (R:=ZCG) (fun x y=>ZCG.ext x y) hTv hE1;generalize h.nx=b1 at *;refine zy ?_;refine ZAE rfl rfl rfl rfl (ZAb rfl rfl) (fun h3=>?_) (fun h3=>?_)
 ·refine zy ?_
  exact ZAC (ZAD rfl ⟨by rw[ZBB,if_pos (fun e=>h3 (by rw[e]))];rfl,hE1⟩)
 have hA:¬t.travel.length≠t.lands.length:=fun e=>e (by have:=Decidable.not_not.1 h3;omega);refine zy ?_
 refine ZAT (fun (s:Nat×Int) m ds h'=>ds=[]/\h'=h1/\s.1<=t.travel.length/\(∀j (hj:j<t.travel.length),j<s.1->t.travel[j].length=t.lands.length)/\s.2=(if ((t.travel.take s.1).any fun l=>l.any fun n=>decide (n < -1\/60<n))=true then 7 else 0) ∧
   AllK m [(1,.pointer (some ⟨b1,0,none⟩)),(3,i64 s.2),(4,i64 s.1)]) (fun s=>t.travel.length-s.1) (0,0) ?_ ?_
 ·exact⟨rfl,rfl,Nat.zero_le _,(fun _ _ hj=>by omega),rfl,rfl,rfl,rfl,trivial⟩
 rintro⟨k,e⟩ m ds h' ⟨rfl,rfl,hk,hno,he,hall⟩;simp only at hk hno he hall;refine Wc.le ?_ (Le.kn hall);refine zy ?_;refine ZAE rfl rfl rfl rfl (ZAW rfl rfl) (fun h6=>?_) (fun h6=>?_)
 ·have hk':k<t.travel.length:=by simpa using h6
  obtain⟨b,o,oa,rfl,row,hrow,ap,c,rfl,hIp⟩:=hTv k hk';have hc:ZAc h' b (o+k*1)=some (.slice ap t.travel[k].length c):=ZAR (k:=0) hrow rfl;have hTl:=hT.travelL _ (List.getElem_mem hk');have htk:t.travel.take (k+1)=t.travel.take k++[t.travel[k]]:=by rw[List.take_add_one,List.getElem?_eq_getElem hk'];rfl
  have hTl1:=hTl.1;refine zy ?_;refine ZAJ hmix [0,1,0,7,15,31,0,64,192,511] [0,1,2,3,4,5,6,7,8,9] none [] (by kernel_rfl) (by kernel_rfl) ?_;refine z_f ?_;refine z_l ?_;refine z_m ?_;refine z_i ?_;refine z_l ?_;refine z_c ?_;refine z_f ?_;refine z_l ?_;refine z_c ?_;refine ZKK rfl rfl rfl rfl rfl (fun _=>ZAb rfl rfl) (fun h7=>?_) (fun h7=>?_)
  ·refine ZAM (ZAA rfl) nb' ?_
   refine zy ?_;refine ZAC (ZAD rfl ⟨?_,hE1⟩);have:(t.travel.any fun l=>decide (l.length≠t.lands.length))=true:=by
    rw[List.any_eq_true];exact⟨_,List.getElem_mem hk',decide_eq_true (fun e=>h7 (by rw[e]))⟩
   rw[ZBB,if_neg hA,if_pos this];rfl
  have h7':t.travel[k].length=t.lands.length:=by have:=Decidable.not_not.1 h7;omega
  refine ZAM (ZAA rfl) nb' ?_;refine zy ?_
  refine ZAT (fun (s:Nat×Int) m ds h2=>ds=[]/\h'=h2/\s.1<=t.travel[k].length/\s.2=(if ((t.travel.take k).any fun l=>l.any fun n=>decide (n < -1\/60<n))=true\/((t.travel[k].take s.1).any fun n=>decide (n < -1\/60<n))=true then 7 else 0) ∧
    AllK m [(1,.pointer (some ⟨b1,0,none⟩)),(3,i64 s.2),(4,i64 k),(5,i64 s.1)]) (fun s=>t.travel[k].length-s.1) (0,e) ?_ ?_
  ·refine⟨rfl,rfl,Nat.zero_le _,?_,rfl,rfl,rfl,rfl,trivial⟩
   rw[he];simp
  clear hall;rintro⟨i,e2⟩ m ds h2 ⟨rfl,rfl,hi,he2,hall⟩;simp only at hi he2 hall;refine Wc.le ?_ (Le.kn hall);refine zy ?_;refine ZAI rfl rfl rfl rfl (A_ix Und.h Tsz.h rfl rfl) ?_;refine zy ?_;refine ZAE rfl rfl rfl rfl (ZAW rfl rfl) (fun h8=>?_) (fun h8=>?_)
  ·have hi':i<t.travel[k].length:=by simpa using h8
   obtain⟨b',o',oa',rfl,hc'⟩:=hIp i hi';have hti:t.travel[k].take (i+1)=t.travel[k].take i++[t.travel[k][i]]:=by rw[List.take_add_one,List.getElem?_eq_getElem hi'];rfl
   refine zy ?_;refine ZAI rfl rfl rfl rfl (A_ix Und.h Tsz.h rfl rfl) ?_;refine zy ?_;refine ZAI rfl rfl rfl rfl (A_ix Und.h Tsz.h rfl rfl) ?_;refine zy ?_;refine ZAP rfl rfl rfl rfl rfl Bod.h rfl rfl (ZBb _ _ _ _) (fun h9=>?_) (fun h9=>?_)
   ·refine zy ?_
    refine⟨(i+1,e2),?_,rfl,rfl,hi',?_,rfl,rfl,rfl,rfl,trivial⟩
    ·simp only;omega
    ·have:=ZBI h9
     rw[he2,hti,List.any_append];simp only[List.any_cons,List.any_nil,decide_eq_false this,Bool.or_false]
   ·refine zy ?_
    refine⟨(i+1,7),?_,rfl,rfl,hi',?_,rfl,rfl,rfl,rfl,trivial⟩
    ·simp only;omega
    ·have:=ZBJ h9
     rw[hti,List.any_append];simp only[List.any_cons,List.any_nil,decide_eq_true this,Bool.or_false,Bool.or_true,or_true,if_true]
  have hi2:i=t.travel[k].length:=by omega
  refine zy ?_;refine⟨(k+1,e2),?_,rfl,rfl,hk',?_,?_,rfl,rfl,rfl,trivial⟩
  ·simp only;omega
  ·intro j hj hlt
   rcases Nat.lt_or_ge j k with g|g
   ·exact hno j hj g
   ·have:j=k:=by omega
    subst this;exact h7'
  ·rw[he2,htk,hi2,List.take_length,List.any_append]
   simp only[List.any_cons,List.any_nil,Bool.or_false,Bool.or_eq_true]
 have hk2:k=t.travel.length:=by omega
 subst hk2;refine zy ?_;refine ZAC (ZAD rfl ⟨?_,hE1⟩);have hB:¬(t.travel.any fun l=>decide (l.length≠t.lands.length))=true:=by
  rw[Bool.not_eq_true,List.any_eq_false];intro x hx;obtain⟨j,hj,rfl⟩:=List.getElem_of_mem hx;simp[hno j hj hj]
 rw[ZBB,if_neg hA,if_neg hB,he,List.take_length];rfl
theorem ZLI {tc rc:List Value}{t:ScT}{v:ScV}{h:Heap}(ht:ZBX h tc t)(hT:t.Fit)(hm:ScVR h rc v):Sv Tryz.prog 78 [.agg ⟨tc⟩,.agg ⟨rc⟩] h (RetP fun r h'=>r=i64 (ZAt t v)/\Ext h h'):=by
 have hL:=hT.lands;obtain⟨al,cl,at',ct,a1,c1,a2,c2,a3,c3,a4,c4,a5,c5,a6,c6,rfl,-,hTv,-⟩:=ht;refine ZAy fun hw=>?_;refine ZAH Tryz.func78 rfl (by rw[Tryz.ntmps78];rfl) ?_;show Wc Tryz.prog ⟨78,38,none⟩ _ _ _ _ _;obtain rfl:=hm;refine zy ?_;refine ZAa rfl rfl rfl fun h1 hE1 hW1 hg1 hn1=>?_;refine ZAa rfl rfl rfl fun h2 hE2 hW2 hg2 hn2=>?_;replace hg1:=hE2.get hg1;have hE:=hE1.trans hE2;generalize h.nx=b1 at *;generalize h1.nx=b2 at *;refine zy ?_;refine ZAP rfl rfl rfl rfl rfl Bod.h rfl rfl (ZBb _ _ _ _) (fun h3=>?_) (fun h3=>?_);rotate_left
 ·refine zy ?_
  exact ZAC (ZAD rfl ⟨by rw[ZAt,if_pos (show ZCa t v.land from ZBJ h3)];rfl,hE⟩)
 have hA:¬ZCa t v.land:=ZBI h3;refine zy ?_;refine ZAP rfl rfl rfl rfl rfl Bod.h rfl rfl (ZBb _ _ _ _) (fun h5=>?_) (fun h5=>?_);rotate_left
 ·refine zy ?_
  exact ZAC (ZAD rfl ⟨by rw[ZAt,if_neg hA,if_pos (.inl (ZBJ h5))];rfl,hE⟩)
 refine zy ?_;refine ZAP rfl rfl rfl rfl rfl Bod.h rfl rfl (ZBb _ _ _ _) (fun h6=>?_) (fun h6=>?_);rotate_left
 ·refine zy ?_
  exact ZAC (ZAD rfl ⟨by rw[ZAt,if_neg hA,if_pos (.inr (.inl (ZBJ h6)))];rfl,hE⟩)
 refine zy ?_;refine ZAP rfl rfl rfl rfl rfl Bod.h rfl rfl (ZBb _ _ _ _) (fun h7=>?_) (fun h7=>?_);rotate_left
 ·refine zy ?_
  exact ZAC (ZAD rfl ⟨by rw[ZAt,if_neg hA,if_pos (.inr (.inr (.inl (ZBJ h7))))];rfl,hE⟩)
 refine zy ?_;refine ZAP rfl rfl rfl rfl rfl Bod.h rfl rfl (ZBb _ _ _ _) (fun h8=>?_) (fun h8=>?_);rotate_left
 ·refine zy ?_
  exact ZAC (ZAD rfl ⟨by rw[ZAt,if_neg hA,if_pos (.inr (.inr (.inr (ZBJ h8))))];rfl,hE⟩)
 have hB:¬((v.proj<0\/2<v.proj)\/(v.change<0\/60<v.change)\/(v.turn<0\/60<v.turn)\/(v.spool<1\/200000<v.spool)):=fun x=>x.elim (ZBI h5) fun x=>x.elim (ZBI h6) fun x=>x.elim (ZBI h7) (ZBI h8);refine zy ?_;refine ZAS rfl rfl rfl rfl rfl Bod.h rfl rfl (ZDY v.speeds _ _ _) fun h9 hE9=>?_;refine zy ?_;exact ZAC (ZAD rfl ⟨by rw[ZAt,if_neg hA,if_neg hB];rfl,hE.trans hE9⟩)
theorem ZLd {tc rc:List Value}{t:ScT}{v:ScR}{h:Heap}(ht:ZBX h tc t)(hT:t.Fit)(hm:ScRR h rc v)(hf:v.Fit):Sv Tryz.prog 79 [.agg ⟨tc⟩,.agg ⟨rc⟩] h (RetP fun r h'=>r=i64 (ZA5 t v)/\Ext h h'):=by
 have hL:=hT.lands;obtain⟨al,cl,at',ct,a1,c1,a2,c2,a3,c3,a4,c4,a5,c5,a6,c6,rfl,-,hTv,-⟩:=ht;refine ZAy fun hw=>?_;refine ZAH Tryz.func79 rfl (by rw[Tryz.ntmps79];rfl) ?_;show Wc Tryz.prog ⟨79,31,none⟩ _ _ _ _ _;obtain rfl:=hm;have hw1:=hf.work;have hw2:=hf.version;refine zy ?_;refine ZAa rfl rfl rfl fun h1 hE1 hW1 hg1 hn1=>?_;refine ZAa rfl rfl rfl fun h2 hE2 hW2 hg2 hn2=>?_;replace hg1:=hE2.get hg1;have hE:=hE1.trans hE2;generalize h.nx=b1 at *;generalize h1.nx=b2 at *;refine zy ?_;refine ZAP rfl rfl rfl rfl rfl Bod.h rfl rfl (ZCQ _ _ hw1) (fun h3=>?_) (fun h3=>?_);rotate_left
 ·refine zy ?_
  exact ZAC (ZAD rfl ⟨by rw[ZA5,if_pos (.inl h3)];rfl,hE⟩)
 refine zy ?_;refine ZAE rfl rfl rfl rfl (ZIp rfl rfl) (fun h5=>?_) (fun h5=>?_)
 ·refine zy ?_
  refine ZAP rfl rfl rfl rfl rfl Bod.h rfl rfl (ZCQ _ _ hw2) (fun h6=>?_) (fun h6=>?_);rotate_left
  ·refine zy ?_
   exact ZAC (ZAD rfl ⟨by rw[ZA5,if_pos (.inr ⟨h5,h6⟩)];rfl,hE⟩)
  have hA:¬(ZBv v.work=false\/(v.version≠[]/\ZBv v.version=false)):=by rw[h3,h6];simp
  refine zy ?_;refine ZAP rfl rfl rfl rfl rfl Bod.h rfl rfl (ZBb _ _ _ _) (fun h7=>?_) (fun h7=>?_);rotate_left
  ·refine zy ?_
   exact ZAC (ZAD rfl ⟨by rw[ZA5,if_neg hA,if_pos (show ZCa t v.land from ZBJ h7)];rfl,hE⟩)
  have hB:¬ZCa t v.land:=ZBI h7;refine zy ?_;refine ZAS rfl rfl rfl rfl rfl Bod.h rfl rfl (ZDY v.days _ _ _) fun h9 hE9=>?_;refine zy ?_;exact ZAC (ZAD rfl ⟨by rw[ZA5,if_neg hA,if_neg hB];rfl,hE.trans hE9⟩)
 ·have hA:¬(ZBv v.work=false\/(v.version≠[]/\ZBv v.version=false)):=by rw[h3];exact fun x=>x.elim (fun x=>nomatch x) (fun x=>h5 x.1)
  refine zy ?_;refine ZAP rfl rfl rfl rfl rfl Bod.h rfl rfl (ZBb _ _ _ _) (fun h7=>?_) (fun h7=>?_);rotate_left
  ·refine zy ?_
   exact ZAC (ZAD rfl ⟨by rw[ZA5,if_neg hA,if_pos (show ZCa t v.land from ZBJ h7)];rfl,hE⟩)
  have hB:¬ZCa t v.land:=ZBI h7;refine zy ?_;refine ZAS rfl rfl rfl rfl rfl Bod.h rfl rfl (ZDY v.days _ _ _) fun h9 hE9=>?_;refine zy ?_;exact ZAC (ZAD rfl ⟨by rw[ZA5,if_neg hA,if_neg hB];rfl,hE.trans hE9⟩)
theorem ZLT {tc rc:List Value}{t:ScT}{v:ScP}{h:Heap}(ht:ZBX h tc t)(hT:t.Fit)(hm:ScPR h rc v)(hf:v.Fit):Sv Tryz.prog 80 [.agg ⟨tc⟩,.agg ⟨rc⟩] h (RetP fun r h'=>r=i64 (ZAp t v)/\Ext h h'):=by
 have hL:=hT.lands;obtain⟨al,cl,at',ct,a1,c1,a2,c2,a3,c3,a4,c4,a5,c5,a6,c6,rfl,-,hTv,-⟩:=ht;refine ZAy fun hw=>?_;refine ZAH Tryz.func80 rfl (by rw[Tryz.ntmps80];rfl) ?_;show Wc Tryz.prog ⟨80,52,none⟩ _ _ _ _ _;obtain⟨ap,cp,rfl,hR⟩:=hm;have hw1:=hf.work;have hw2:=hf.version;have hw3:=hf.reels;refine zy ?_;refine ZAa rfl rfl rfl fun h1 hE1 hW1 hg1 hn1=>?_;refine ZAa rfl rfl rfl fun h2 hE2 hW2 hg2 hn2=>?_;replace hg1:=hE2.get hg1;have hE:=hE1.trans hE2;generalize h.nx=b1 at *;generalize h1.nx=b2 at *;refine zy ?_;replace hR:=hR.ext hE;refine ZAP rfl rfl rfl rfl rfl Bod.h rfl rfl (ZCQ _ _ hw1) (fun h3=>?_) (fun h3=>?_)
 rotate_left
 ·refine zy ?_
  exact ZAC (ZAD rfl ⟨by rw[ZAp,if_pos (.inl h3)];rfl,hE⟩)
 refine zy ?_;refine ZAP rfl rfl rfl rfl rfl Bod.h rfl rfl (ZCQ _ _ hw2) (fun h5=>?_) (fun h5=>?_);rotate_left
 ·refine zy ?_
  exact ZAC (ZAD rfl ⟨by rw[ZAp,if_pos (.inr h5)];rfl,hE⟩)
 have hA:¬(ZBv v.work=false\/ZBv v.version=false):=by rw[h3,h5];simp
 refine zy ?_;refine ZAP rfl rfl rfl rfl rfl Bod.h rfl rfl (ZBb _ _ _ _) (fun h7=>?_) (fun h7=>?_);rotate_left
 ·refine zy ?_
  exact ZAC (ZAD rfl ⟨by rw[ZAp,if_neg hA,if_pos (by have:=ZBJ h7;omega)];rfl,hE⟩)
 have hB:¬(v.reels.length<1\/12<v.reels.length):=by have:=ZBI h7;omega
 refine zy ?_;refine ZAT (fun (k:Nat) m ds h'=>ds=[]/\h2=h'/\k<=v.reels.length/\(∀j (hj:j<v.reels.length),j<k->¬(v.reels[j]<1\/200000<v.reels[j]))/\AllK m [(2,.pointer (some ⟨b1,0,none⟩)),(3,.pointer (some ⟨b2,0,none⟩)),(5,i64 k)]) (fun k=>v.reels.length-k) 0 ?_ ?_
 ·exact⟨rfl,rfl,Nat.zero_le _,(fun _ _ hj=>by omega),rfl,rfl,rfl,trivial⟩
 rintro k m ds h' ⟨rfl,rfl,hk,hno,hall⟩;refine Wc.le ?_ (Le.kn hall);refine zy ?_;refine ZAE rfl rfl rfl rfl (ZAW rfl rfl) (fun h8=>?_) (fun h8=>?_)
 ·have hk':k<v.reels.length:=by simpa using h8
  obtain⟨b,o,oa,rfl,hc⟩:=hR k hk';refine zy ?_;refine ZAI rfl rfl rfl rfl (A_ix Und.h Tsz.h rfl rfl) ?_;refine zy ?_;refine ZAP rfl rfl rfl rfl rfl Bod.h rfl rfl (ZBb _ _ _ _) (fun h9=>?_) (fun h9=>?_)
  ·refine zy ?_
   refine⟨k+1,?_,rfl,rfl,hk',?_,rfl,rfl,rfl,trivial⟩
   ·show v.reels.length-(k+1)<v.reels.length-k;omega
   ·intro j hj hlt
    rcases Nat.lt_or_ge j k with g|g
    ·exact hno j hj g
    ·have:j=k:=by omega
     subst this;exact ZBI h9
  ·refine zy ?_
   have hany:(v.reels.any fun n=>decide (n<1\/200000<n))=true:=by
    rw[List.any_eq_true];exact⟨_,List.getElem_mem hk',decide_eq_true (ZBJ h9)⟩
   exact ZAC (ZAD rfl ⟨by rw[ZAp,if_neg hA,if_neg hB,if_pos hany];rfl,hE⟩)
 have hC:¬(v.reels.any fun n=>decide (n<1\/200000<n))=true:=by
  rw[Bool.not_eq_true,List.any_eq_false];intro x hx;obtain⟨j,hj,rfl⟩:=List.getElem_of_mem hx
  simpa using hno j hj (by omega)
 clear hall hno;refine zy ?_;refine ZAS rfl rfl rfl rfl rfl Bod.h rfl rfl (ZDY v.speeds _ _ _) fun h10 hE10=>?_;replace hg1:=hE10.get hg1;replace hg2:=hE10.get hg2;replace hE:=hE.trans hE10;refine zy ?_;refine ZAE rfl rfl rfl rfl (ZAX rfl rfl) (fun h11=>?_) (fun h11=>?_)
 ·refine zy ?_
  refine ZAP rfl rfl rfl rfl rfl Bod.h rfl rfl (ZBb _ _ _ _) (fun h12=>?_) (fun h12=>?_);rotate_left
  ·refine zy ?_
   exact ZAC (ZAD rfl ⟨by rw[ZAp,if_neg hA,if_neg hB,if_neg hC,if_neg (fun e=>e h11),if_pos (show ZCa t v.land from ZBJ h12)];rfl,hE⟩)
  refine zy ?_;exact ZAC (ZAD rfl ⟨by rw[ZAp,if_neg hA,if_neg hB,if_neg hC,if_neg (fun e=>e h11),if_neg (show ¬ZCa t v.land from ZBI h12),h11];rfl,hE⟩)
 refine zy ?_;exact ZAC (ZAD rfl ⟨by rw[ZAp,if_neg hA,if_neg hB,if_neg hC,if_pos h11];rfl,hE⟩)
theorem ZI3 {tc:List Value}{t:ScT}{h:Heap}(ht:ZBX h tc t)(hT:t.Fit):Sv Tryz.prog 19 [.agg ⟨tc⟩] h (RetP fun v h'=>v=tup3 (ZAw t)/\Ext h h'):=by
 have ht0:=ht;obtain⟨al,cl,at',ct,a1,c1,a2,c2,a3,c3,a4,c4,a5,c5,a6,c6,rfl,m1,m2,m3,m4,m5,m6,m7,m8⟩:=ht;have f1:=hT.first;have f2:=hT.lands;have f3:=hT.venues;have f4:=hT.rights;have f5:=hT.prints;have f6:=hT.packs;have f7:=hT.keys;have f8:=hT.loans;refine ZAy fun hw=>?_;refine ZAH Tryz.func19 rfl (by rw[Tryz.ntmps19];rfl) ?_;show Wc Tryz.prog ⟨19,315,none⟩ _ _ _ _ _;refine zy ?_;refine ZAa rfl rfl rfl fun h1 hE1 hW1 hg1 hn1=>?_;replace ht0:=ht0.ext hE1;replace m1:=m1.ext hE1;replace m3:=ZAN.ext (R:=ScVR) (fun x _=>x) m3 hE1;replace m4:=ZAN.ext (R:=ScRR) (fun x _=>x) m4 hE1;replace m5:=ZAN.ext (R:=ScPR) (fun x y=>ScPR.ext x y) m5 hE1
 replace m6:=ZAN.ext (R:=ZEV) (fun x _=>x) m6 hE1;replace m7:=ZAN.ext (R:=ScKR) (fun x _=>x) m7 hE1;replace m8:=ZAN.ext (R:=ScLR) (fun x _=>x) m8 hE1;generalize h.nx=b1 at *;refine zy ?_;refine ZAP rfl rfl rfl rfl rfl Bod.h rfl rfl (ZBb _ _ _ _) (fun h3=>?_) (fun h3=>?_);rotate_left
 ·refine zy ?_
  exact ZAC (ZAD rfl ⟨by rw[ZAw,if_pos (ZBJ h3)];rfl,hE1⟩)
 have hA:¬(t.first<0\/80000<t.first):=ZBI h3;refine zy ?_;refine ZAP rfl rfl rfl rfl rfl Bod.h rfl rfl (ZBb _ _ _ _) (fun h4=>?_) (fun h4=>?_);rotate_left
 ·refine zy ?_
  exact ZAC (ZAD rfl ⟨by rw[ZAw,if_neg hA,if_pos (by have:=ZBJ h4;omega)];rfl,hE1⟩)
 have h4':=ZBI h4;refine zy ?_;refine ZAP rfl rfl rfl rfl rfl Bod.h rfl rfl (ZBb _ _ _ _) (fun h5=>?_) (fun h5=>?_);rotate_left
 ·refine zy ?_
  exact ZAC (ZAD rfl ⟨by rw[ZAw,if_neg hA,if_pos (by have:=ZBJ h5;omega)];rfl,hE1⟩)
 have h5':=ZBI h5;refine zy ?_;refine ZAE rfl rfl rfl rfl (ZB0 rfl rfl) (fun g0=>?_) (fun g0=>?_)
 ·refine zy ?_
  exact ZAC (ZAD rfl ⟨by rw[ZAw,if_neg hA,if_pos (by omega)];rfl,hE1⟩)
 refine zy ?_;refine ZAE rfl rfl rfl rfl (ZB0 rfl rfl) (fun g1=>?_) (fun g1=>?_)
 ·refine zy ?_
  exact ZAC (ZAD rfl ⟨by rw[ZAw,if_neg hA,if_pos (by omega)];rfl,hE1⟩)
 refine zy ?_;refine ZAE rfl rfl rfl rfl (ZB0 rfl rfl) (fun g2=>?_) (fun g2=>?_)
 ·refine zy ?_
  exact ZAC (ZAD rfl ⟨by rw[ZAw,if_neg hA,if_pos (by omega)];rfl,hE1⟩)
 refine zy ?_;refine ZAE rfl rfl rfl rfl (ZB0 rfl rfl) (fun g3=>?_) (fun g3=>?_)
 ·refine zy ?_
  exact ZAC (ZAD rfl ⟨by rw[ZAw,if_neg hA,if_pos (by omega)];rfl,hE1⟩)
 refine zy ?_;refine ZAE rfl rfl rfl rfl (ZB0 rfl rfl) (fun g4=>?_) (fun g4=>?_)
 ·refine zy ?_
  exact ZAC (ZAD rfl ⟨by rw[ZAw,if_neg hA,if_pos (by omega)];rfl,hE1⟩)
 have hB:¬((t.lands.length<1\/8<t.lands.length)\/(t.venues.length<1\/8<t.venues.length)\/30<t.rights.length\/12<t.prints.length\/12<t.packs.length\/30<t.keys.length\/30<t.loans.length):=by omega
 have e0:ZAw t=orE 2 (goNm id (fun _=>0) 0 [] t.lands) (if ZBB t≠0 then (2,0,ZBB t) else orE 3 (goNm ScV.name (ZAt t) 0 [] t.venues) (orE 4 (goEa (ZA5 t) 0 t.rights) (orE 5 (goNm ScP.name (ZAp t) 0 [] t.prints) (orE 6 (goNm ScPk.name ZA8 0 [] t.packs) (orE 7 (goEa (ZCJ t) 0 t.keys) (orE 8 (goEa (ZA3 t) 0 t.loans) (0,0,0))))))):=by rw[ZAw,if_neg hA,if_neg hB]
 clear h3 h4 h5 h4' h5' g0 g1 g2 g3 g4;obtain⟨h0,hh0⟩:∃h0,h0=h1:=⟨_,rfl⟩;have hX:Ext h0 h1:=by rw[hh0];exact Ext.refl _
 rw[<-hh0] at hE1 hW1 hg1 ht0 m1 m3 m4 m5 m6 m7 m8;clear hh0;refine zy ?_;refine ZAT (fun (k:Nat) m ds h'=>ds=[]/\h1=h'/\k<=t.lands.length/\goNm id (fun _=>0) 0 [] t.lands=goNm id (fun _=>0) k (t.lands.take k) (t.lands.drop k)/\AllK m [(1,.pointer (some ⟨b1,0,none⟩)),(5,i64 k)]) (fun k=>t.lands.length-k) 0 ?_ ?_
 ·exact⟨rfl,rfl,Nat.zero_le _,rfl,rfl,rfl,trivial⟩
 rintro k m ds h' ⟨rfl,rfl,hk,hgo,hall⟩;have hg1':=hX.get hg1;refine Wc.le ?_ (Le.kn hall);refine zy ?_;refine ZAE rfl rfl rfl rfl (ZAW rfl rfl) (fun h6=>?_) (fun h6=>?_)
 ·have hk':k<t.lands.length:=by simpa using h6
  have hdr:t.lands.drop k=t.lands[k]::t.lands.drop (k+1):=List.drop_eq_getElem_cons hk';have htk:t.lands.take (k+1)=t.lands.take k++[t.lands[k]]:=by rw[List.take_add_one,List.getElem?_eq_getElem hk'];rfl
  rw[hdr,goNm] at hgo;have hxN:=hT.landsL _ (List.getElem_mem hk');obtain⟨b,o,hal⟩:=m1.plain (List.ne_nil_of_length_pos (by omega));have hle:=m1.le;have hpre:ZF8 h1 (some ⟨b,o,none⟩) (t.lands.take k):=by rw[<-hal];exact (m1.take k).ext hX
  have hplen:(t.lands.take k).length=k:=by simp;omega
  obtain⟨b',o',oa',hal',hc⟩:=m1.at' k hk';rw[hal] at hal';cases hal';subst hal;replace hc:=hX.cell hc;generalize hmk:t.lands[k]=x at *;refine zy ?_;refine ZAJ hmix [0,1,0,7,15,0,32,0,224,511,1023] [0,1,2,3,4,5,6,7,8] (some 9) [([],(some 10)),([],none)] (by kernel_rfl) (by kernel_rfl) ?_;refine z_f ?_;refine z_l ?_;refine z_m ?_;refine z_i ?_;refine z_l ?_;refine z_f ?_;refine z_l ?_;refine z_m ?_;refine ZAB rfl rfl rfl rfl rfl (fun _=>ZGe (k:=k) Und.h Tsz.h rfl rfl rfl (by omega)) ?_;refine ZAF [0,1,2,3,4,5,6,7,8] (by kernel_rfl) rfl (ZAA rfl) rfl nb rfl (ZAs rfl rfl rfl rfl rfl Bod.h (by have:=ZEH (cap:=cl) hpre hxN (by omega);rw[hplen] at this;exact this) ?_)
  refine ZAF [0,1,2,3,4,5,6,7,8,9] (by kernel_rfl) rfl (ZAA rfl) rfl nb rfl (ZAj rfl rfl (ZAO rfl) ?_);refine ZAM (ZAA rfl) nb' ?_;refine zy ?_;refine ZAE rfl rfl rfl rfl (ZAb rfl rfl) (fun h7=>?_) (fun h7=>?_)
  ·refine zy ?_
   refine ZAC (ZAD rfl ⟨?_,hE1.trans hX⟩);rw[show ZAe (id x) (t.lands.take k)=ZAe x (t.lands.take k) from rfl,if_pos h7] at hgo;rw[e0,hgo];rfl
  rw[show ZAe (id x) (t.lands.take k)=ZAe x (t.lands.take k) from rfl,if_neg h7,if_neg (by decide)] at hgo;refine zy ?_;refine⟨k+1,?_,rfl,rfl,hk',?_,rfl,rfl,trivial⟩
  ·show t.lands.length-(k+1)<t.lands.length-k;omega
  ·rw[htk];exact hgo
 have hgN:goNm id (fun _=>0) 0 [] t.lands=none:=by
  have hk2:k=t.lands.length:=by omega
  rw[hgo,hk2,List.drop_length];rfl
 rw[hgN] at e0;replace e0:ZAw t=_:=e0;clear hgo hgN hall;rw[show ∀x,orE 2 none x=x from fun _=>rfl] at e0;refine zy ?_;refine ZAS rfl rfl rfl rfl rfl Bod.h rfl rfl (ZJ1 (ht0.ext hX) hT) fun h6 hE6=>?_;replace hg1':=hE6.get hg1';replace hX:=hX.trans hE6;clear hE6;refine zy ?_;refine ZAE rfl rfl rfl rfl (ZAb rfl rfl) (fun h7=>?_) (fun h7=>?_)
 ·refine zy ?_
  exact ZAC (ZAD rfl ⟨by rw[e0,if_pos h7];rfl,hE1.trans hX⟩)
 rw[if_neg h7] at e0;clear h7;refine zy ?_
 refine ZAT (fun (s:Nat×Value) m ds h'=>ds=[]/\s.1<=t.venues.length/\Ext h0 h'/\ZCy h0 h' s.2 9 1 (((t.venues.take s.1).map ScV.name).map str) s.1 ∧
   goNm ScV.name (ZAt t) 0 [] t.venues=goNm ScV.name (ZAt t) s.1 ((t.venues.take s.1).map ScV.name) (t.venues.drop s.1)/\AllK m [(1,.pointer (some ⟨b1,0,none⟩)),(8,s.2),(9,i64 s.1)]) (fun s=>t.venues.length-s.1) (0,.slice none 0 0) ?_ ?_
 ·exact⟨rfl,Nat.zero_le _,hX,ZCy.nil _ _ _ _,rfl,rfl,rfl,rfl,trivial⟩
 clear hX hg1';rintro⟨k,nv⟩ m ds h7 ⟨rfl,hk,hX,hO,hgo,hall⟩;simp only at hk hO hgo hall;have hg1':=hX.get hg1;refine Wc.le ?_ (Le.kn hall);refine zy ?_;refine ZAE rfl rfl rfl rfl (ZAW rfl rfl) (fun h6=>?_) (fun h6=>?_)
 ·have hk':k<t.venues.length:=by simpa using h6
  have hdr:t.venues.drop k=t.venues[k]::t.venues.drop (k+1):=List.drop_eq_getElem_cons hk';have htk:t.venues.take (k+1)=t.venues.take k++[t.venues[k]]:=by rw[List.take_add_one,List.getElem?_eq_getElem hk'];rfl
  rw[hdr,goNm] at hgo;obtain⟨b,o,oa,rfl,row,hrow,hma⟩:=m3 k hk';have hxm:=List.getElem_mem hk';generalize hmk:t.venues[k]=x at *;have hma0:=hma;obtain rfl:=hma;have hrow7:=hX.row hrow;obtain⟨aN,rfl,_,hNl⟩:=hO.list;have hNlen:((t.venues.take k).map ScV.name).length=k:=by simp;omega
  have hcell:ZAc h7 b (o+k*9+0)=some (str x.name):=ZAR hrow7 rfl;refine zy ?_;refine ZAI rfl rfl rfl rfl (A_ix Und.h Tsz.h rfl rfl) ?_;refine zy ?_;refine ZA6 rfl rfl rfl rfl rfl Bod.h rfl rfl (ZEH hNl (hT.venuesF _ hxm).name (by omega)) ?_;refine zy ?_;refine ZAE rfl rfl rfl rfl (ZAX rfl rfl) (fun h9=>?_) (fun h9=>?_)
  ·rw[if_neg (fun e=>e h9)] at hgo
   refine zy ?_;refine ZAJ hmix [0,0,2,0,14,30,63,127] [0,1,2,3,4,5] (some 6) [([],(some 7)),([],none)] (by kernel_rfl) (by kernel_rfl) ?_;refine z_r ?_;refine z_f ?_;refine z_l ?_;refine z_m ?_;refine z_i ?_;refine z_r ?_;refine ZAF [0,1,2,3,4,5] (by kernel_rfl) rfl (ZAA rfl) rfl nb rfl (ZAZ rfl rfl rfl rfl rfl Bod.h (ZLI (ht0.ext hX) hT hma0) (fun h10 hE10=>?_));refine ZAF [0,1,2,3,4,5,6] (by kernel_rfl) rfl (ZAA rfl) rfl nb rfl (ZAj rfl rfl (ZAO rfl) ?_);refine ZAM (ZAA rfl) nb' ?_;replace hX:=hX.trans hE10;replace hg1':=hE10.get hg1';replace hO:=hO.ext hE10;replace hcell:=hE10.cell hcell;refine zy ?_
   refine ZAE rfl rfl rfl rfl (ZAb rfl rfl) (fun h11=>?_) (fun h11=>?_)
   ·refine zy ?_
    refine ZAC (ZAD rfl ⟨?_,hE1.trans hX⟩);rw[if_pos h11] at hgo;rw[e0,hgo];rfl
   rw[if_neg h11] at hgo;refine zy ?_;refine ZAI rfl rfl rfl rfl (A_ix Und.h Tsz.h rfl rfl) ?_;refine zy ?_;refine ZC8 rfl rfl Und.h Tsz.h Zr.h rfl rfl rfl rfl rfl fun h12 hE12 hW12 hg12 hn12=>?_;refine ZGx (k:=1) (l:=[str x.name]) hW1 (hX.trans hE12) rfl rfl rfl rfl rfl Und.h inferInstance rfl rfl (hO.ext hE12) (ZBC Und.h (by intro k;simp) (ZAd hg12 rfl)) rfl rfl (by omega) (by omega) (by omega) fun v13 h13 hO13 hE13 hK13=>?_;refine zy ?_;refine⟨(k+1,v13),?_,rfl,hk',hE13,?_,?_,rfl,rfl,rfl,trivial⟩
   ·show t.venues.length-(k+1)<t.venues.length-k;omega
   ·rw[htk];simpa using hO13
   ·rw[htk,List.map_append];exact hgo
  ·rw[if_pos h9] at hgo
   refine zy ?_;refine ZAE rfl rfl rfl rfl (ZAb rfl rfl) (fun h10=>?_) (fun h10=>?_)
   ·refine zy ?_
    refine ZAC (ZAD rfl ⟨?_,hE1.trans hX⟩);rw[e0,hgo];rfl
   ·exact absurd h9 h10
 have hgN:goNm ScV.name (ZAt t) 0 [] t.venues=none:=by
  have hk2:k=t.venues.length:=by omega
  rw[hgo,hk2,List.drop_length];rfl
 rw[hgN] at e0;replace e0:ZAw t=_:=e0;clear hgo hgN hall hO;rw[show ∀x,orE 3 none x=x from fun _=>rfl] at e0;clear h6 hk;refine zy ?_;refine ZAT (fun (k:Nat) m ds h'=>ds=[]/\k<=t.rights.length/\Ext h0 h'/\goEa (ZA5 t) 0 t.rights=goEa (ZA5 t) k (t.rights.drop k)/\AllK m [(1,.pointer (some ⟨b1,0,none⟩)),(11,i64 k)]) (fun k=>t.rights.length-k) 0 ?_ ?_
 ·exact⟨rfl,Nat.zero_le _,hX,rfl,rfl,rfl,trivial⟩
 clear hX hg1';rintro k m ds h7 ⟨rfl,hk,hX,hgo,hall⟩;have hg1':=hX.get hg1;refine Wc.le ?_ (Le.kn hall);refine zy ?_;refine ZAE rfl rfl rfl rfl (ZAW rfl rfl) (fun h6=>?_) (fun h6=>?_)
 ·have hk':k<t.rights.length:=by simpa using h6
  have hdr:t.rights.drop k=t.rights[k]::t.rights.drop (k+1):=List.drop_eq_getElem_cons hk';have htk:t.rights.take (k+1)=t.rights.take k++[t.rights[k]]:=by rw[List.take_add_one,List.getElem?_eq_getElem hk'];rfl
  rw[hdr,goEa] at hgo;obtain⟨b,o,oa,rfl,row,hrow,hma⟩:=m4 k hk';have hxm:=List.getElem_mem hk';generalize hmk:t.rights[k]=x at *;have hma0:=hma;obtain rfl:=hma;have hrow7:=hX.row hrow;refine zy ?_;refine ZAJ hmix [0,0,2,0,14,30,63,127] [0,1,2,3,4,5] (some 6) [([],(some 7)),([],none)] (by kernel_rfl) (by kernel_rfl) ?_;refine z_r ?_;refine z_f ?_;refine z_l ?_;refine z_m ?_;refine z_i ?_;refine z_r ?_;refine ZAF [0,1,2,3,4,5] (by kernel_rfl) rfl (ZAA rfl) rfl nb rfl (ZAZ rfl rfl rfl rfl rfl Bod.h (ZLd (ht0.ext hX) hT hma0 (hT.rightsF _ hxm)) (fun h10 hE10=>?_));refine ZAF [0,1,2,3,4,5,6] (by kernel_rfl) rfl (ZAA rfl) rfl nb rfl (ZAj rfl rfl (ZAO rfl) ?_)
  refine ZAM (ZAA rfl) nb' ?_;replace hX:=hX.trans hE10;refine zy ?_;refine ZAE rfl rfl rfl rfl (ZAb rfl rfl) (fun h11=>?_) (fun h11=>?_)
  ·refine zy ?_
   refine ZAC (ZAD rfl ⟨?_,hE1.trans hX⟩);rw[if_pos h11] at hgo;rw[e0,hgo];rfl
  rw[if_neg h11] at hgo;refine zy ?_;refine⟨k+1,?_,rfl,hk',hX,hgo,rfl,rfl,trivial⟩
  show t.rights.length-(k+1)<t.rights.length-k;omega
 have hgN:goEa (ZA5 t) 0 t.rights=none:=by
  have hk2:k=t.rights.length:=by omega
  rw[hgo,hk2,List.drop_length];rfl
 rw[hgN] at e0;replace e0:ZAw t=_:=e0;clear hgo hgN hall;rw[show ∀x,orE 4 none x=x from fun _=>rfl] at e0;clear h6 hk;refine zy ?_
 refine ZAT (fun (s:Nat×Value) m ds h'=>ds=[]/\s.1<=t.prints.length/\Ext h0 h'/\ZCy h0 h' s.2 9 1 (((t.prints.take s.1).map ScP.name).map str) s.1 ∧
   goNm ScP.name (ZAp t) 0 [] t.prints=goNm ScP.name (ZAp t) s.1 ((t.prints.take s.1).map ScP.name) (t.prints.drop s.1)/\AllK m [(1,.pointer (some ⟨b1,0,none⟩)),(8,s.2),(13,i64 s.1)]) (fun s=>t.prints.length-s.1) (0,.slice none 0 0) ?_ ?_
 ·exact⟨rfl,Nat.zero_le _,hX,ZCy.nil _ _ _ _,rfl,rfl,rfl,rfl,trivial⟩
 clear hX hg1';rintro⟨k,nv⟩ m ds h7 ⟨rfl,hk,hX,hO,hgo,hall⟩;simp only at hk hO hgo hall;have hg1':=hX.get hg1;refine Wc.le ?_ (Le.kn hall);refine zy ?_;refine ZAE rfl rfl rfl rfl (ZAW rfl rfl) (fun h6=>?_) (fun h6=>?_)
 ·have hk':k<t.prints.length:=by simpa using h6
  have hdr:t.prints.drop k=t.prints[k]::t.prints.drop (k+1):=List.drop_eq_getElem_cons hk';have htk:t.prints.take (k+1)=t.prints.take k++[t.prints[k]]:=by rw[List.take_add_one,List.getElem?_eq_getElem hk'];rfl
  rw[hdr,goNm] at hgo;obtain⟨b,o,oa,rfl,row,hrow,hma⟩:=m5 k hk';have hxm:=List.getElem_mem hk';generalize hmk:t.prints[k]=x at *;have hma0:=hma;obtain⟨ap,cp,rfl,hpl⟩:=hma;have hrow7:=hX.row hrow;obtain⟨aN,rfl,_,hNl⟩:=hO.list;have hNlen:((t.prints.take k).map ScP.name).length=k:=by simp;omega
  have hcell:ZAc h7 b (o+k*7+0)=some (str x.name):=ZAR hrow7 rfl;refine zy ?_;refine ZAI rfl rfl rfl rfl (A_ix Und.h Tsz.h rfl rfl) ?_;refine zy ?_;refine ZA6 rfl rfl rfl rfl rfl Bod.h rfl rfl (ZEH hNl (hT.printsF _ hxm).name (by omega)) ?_;refine zy ?_;refine ZAE rfl rfl rfl rfl (ZAX rfl rfl) (fun h9=>?_) (fun h9=>?_)
  ·rw[if_neg (fun e=>e h9)] at hgo
   refine zy ?_;refine ZAJ hmix [0,0,2,0,14,30,63,127] [0,1,2,3,4,5] (some 6) [([],(some 7)),([],none)] (by kernel_rfl) (by kernel_rfl) ?_;refine z_r ?_;refine z_f ?_;refine z_l ?_;refine z_m ?_;refine z_i ?_;refine z_r ?_;refine ZAF [0,1,2,3,4,5] (by kernel_rfl) rfl (ZAA rfl) rfl nb rfl (ZAZ rfl rfl rfl rfl rfl Bod.h (ZLT (ht0.ext hX) hT (hma0.ext hX) (hT.printsF _ hxm)) (fun h10 hE10=>?_));refine ZAF [0,1,2,3,4,5,6] (by kernel_rfl) rfl (ZAA rfl) rfl nb rfl (ZAj rfl rfl (ZAO rfl) ?_);refine ZAM (ZAA rfl) nb' ?_;replace hX:=hX.trans hE10;replace hg1':=hE10.get hg1';replace hO:=hO.ext hE10;replace hcell:=hE10.cell hcell
   refine zy ?_;refine ZAE rfl rfl rfl rfl (ZAb rfl rfl) (fun h11=>?_) (fun h11=>?_)
   ·refine zy ?_
    refine ZAC (ZAD rfl ⟨?_,hE1.trans hX⟩);rw[if_pos h11] at hgo;rw[e0,hgo];rfl
   rw[if_neg h11] at hgo;refine zy ?_;refine ZAI rfl rfl rfl rfl (A_ix Und.h Tsz.h rfl rfl) ?_;refine zy ?_;refine ZC8 rfl rfl Und.h Tsz.h Zr.h rfl rfl rfl rfl rfl fun h12 hE12 hW12 hg12 hn12=>?_;refine ZGx (k:=1) (l:=[str x.name]) hW1 (hX.trans hE12) rfl rfl rfl rfl rfl Und.h inferInstance rfl rfl (hO.ext hE12) (ZBC Und.h (by intro k;simp) (ZAd hg12 rfl)) rfl rfl (by omega) (by omega) (by omega) fun v13 h13 hO13 hE13 hK13=>?_;refine zy ?_;refine⟨(k+1,v13),?_,rfl,hk',hE13,?_,?_,rfl,rfl,rfl,trivial⟩
   ·show t.prints.length-(k+1)<t.prints.length-k;omega
   ·rw[htk];simpa using hO13
   ·rw[htk,List.map_append];exact hgo
  ·rw[if_pos h9] at hgo
   refine zy ?_;refine ZAE rfl rfl rfl rfl (ZAb rfl rfl) (fun h10=>?_) (fun h10=>?_)
   ·refine zy ?_
    refine ZAC (ZAD rfl ⟨?_,hE1.trans hX⟩);rw[e0,hgo];rfl
   ·exact absurd h9 h10
 have hgN:goNm ScP.name (ZAp t) 0 [] t.prints=none:=by
  have hk2:k=t.prints.length:=by omega
  rw[hgo,hk2,List.drop_length];rfl
 rw[hgN] at e0;replace e0:ZAw t=_:=e0;clear hgo hgN hall hO;rw[show ∀x,orE 5 none x=x from fun _=>rfl] at e0;clear h6 hk;refine zy ?_
 refine ZAT (fun (s:Nat×Value) m ds h'=>ds=[]/\s.1<=t.packs.length/\Ext h0 h'/\ZCy h0 h' s.2 9 1 (((t.packs.take s.1).map ScPk.name).map str) s.1 ∧
   goNm ScPk.name (ZA8) 0 [] t.packs=goNm ScPk.name (ZA8) s.1 ((t.packs.take s.1).map ScPk.name) (t.packs.drop s.1)/\AllK m [(1,.pointer (some ⟨b1,0,none⟩)),(8,s.2),(15,i64 s.1)]) (fun s=>t.packs.length-s.1) (0,.slice none 0 0) ?_ ?_
 ·exact⟨rfl,Nat.zero_le _,hX,ZCy.nil _ _ _ _,rfl,rfl,rfl,rfl,trivial⟩
 clear hX hg1';rintro⟨k,nv⟩ m ds h7 ⟨rfl,hk,hX,hO,hgo,hall⟩;simp only at hk hO hgo hall;have hg1':=hX.get hg1;refine Wc.le ?_ (Le.kn hall);refine zy ?_;refine ZAE rfl rfl rfl rfl (ZAW rfl rfl) (fun h6=>?_) (fun h6=>?_)
 ·have hk':k<t.packs.length:=by simpa using h6
  have hdr:t.packs.drop k=t.packs[k]::t.packs.drop (k+1):=List.drop_eq_getElem_cons hk';have htk:t.packs.take (k+1)=t.packs.take k++[t.packs[k]]:=by rw[List.take_add_one,List.getElem?_eq_getElem hk'];rfl
  rw[hdr,goNm] at hgo;obtain⟨b,o,oa,rfl,row,hrow,hma⟩:=m6 k hk';have hxm:=List.getElem_mem hk';generalize hmk:t.packs[k]=x at *;have hma0:=hma;obtain rfl:=hma;have hrow7:=hX.row hrow;obtain⟨aN,rfl,_,hNl⟩:=hO.list;have hNlen:((t.packs.take k).map ScPk.name).length=k:=by simp;omega
  have hxF:=hT.packsF x hxm;have hw1:=hxF.work;have hw2:=hxF.version;refine ZCM fun hw7=>?_;refine zy ?_;refine ZAI rfl rfl rfl rfl (A_ix Und.h Tsz.h rfl rfl) ?_;refine zy ?_;refine ZAh rfl rfl Zr.h Tsz.h rfl (fun _=>rfl) rfl rfl rfl fun h8 hE8 hW8 hg8 hn8=>?_;have hbk:h0.nx<=h7.nx:=hX.2.1;replace hX:=hX.trans hE8;replace hg1':=hE8.get hg1';replace hO:=hO.ext hE8;replace hNl:=hNl.ext hE8;generalize h7.nx=bk at *;refine zy ?_;refine ZA6 rfl rfl rfl rfl rfl Bod.h rfl rfl (ZEH hNl (hT.packsF _ hxm).name (by omega)) ?_;refine zy ?_;refine ZAE rfl rfl rfl rfl (ZAX rfl rfl) (fun h9=>?_) (fun h9=>?_)
  ·rw[if_neg (fun e=>e h9)] at hgo
   refine zy ?_;refine ZAP rfl rfl rfl rfl rfl Bod.h rfl rfl (ZCQ _ _ hw1) (fun h10=>?_) (fun h10=>?_);rotate_left
   ·refine zy ?_
    refine ZAE rfl rfl rfl rfl (ZAX rfl rfl) (fun h12=>?_) (fun h12=>?_)
    ·exact absurd h12 (by decide)
    refine zy ?_;refine ZAE rfl rfl rfl rfl (ZAb rfl rfl) (fun h13=>?_) (fun h13=>?_)
    ·have hp:ZA8 x=6:=by rw[ZA8,if_pos (.inl h10)]
     rw[hp,if_pos (by decide)] at hgo;refine zy ?_;refine ZAC (ZAD rfl ⟨?_,hE1.trans hX⟩);rw[e0,hgo];rfl
    ·exact (h13 (by decide)).elim
   refine zy ?_;refine ZAP rfl rfl rfl rfl rfl Bod.h rfl rfl (ZCQ _ _ hw2) (fun h11=>?_) (fun h11=>?_);rotate_left
   ·refine zy ?_
    refine ZAE rfl rfl rfl rfl (ZAX rfl rfl) (fun h12=>?_) (fun h12=>?_)
    ·exact absurd h12 (by decide)
    refine zy ?_;refine ZAE rfl rfl rfl rfl (ZAb rfl rfl) (fun h13=>?_) (fun h13=>?_)
    ·have hp:ZA8 x=6:=by rw[ZA8,if_pos (.inr h11)]
     rw[hp,if_pos (by decide)] at hgo;refine zy ?_;refine ZAC (ZAD rfl ⟨?_,hE1.trans hX⟩);rw[e0,hgo];rfl
    ·exact (h13 (by decide)).elim
   have hP:¬(ZBv x.work=false\/ZBv x.version=false):=by rw[h10,h11];simp
   refine zy ?_;refine ZAE rfl rfl rfl rfl (ZAX rfl rfl) (fun h12=>?_) (fun h12=>?_);rotate_left
   ·exact absurd h9 h12
   refine zy ?_;refine ZAP rfl rfl rfl rfl rfl Bod.h rfl rfl (ZBb _ _ _ _) (fun h14=>?_) (fun h14=>?_);rotate_left
   ·refine zy ?_
    refine ZAE rfl rfl rfl rfl (ZAb rfl rfl) (fun h13=>?_) (fun h13=>?_)
    ·have hp:ZA8 x=7:=by rw[ZA8,if_neg hP,if_pos (.inl (ZBJ h14))]
     rw[hp,if_pos (by decide)] at hgo;refine zy ?_;refine ZAC (ZAD rfl ⟨?_,hE1.trans hX⟩);rw[e0,hgo];rfl
    ·exact (h13 (by decide)).elim
   refine zy ?_;refine ZAP rfl rfl rfl rfl rfl Bod.h rfl rfl (ZBb _ _ _ _) (fun h15=>?_) (fun h15=>?_);rotate_left
   ·refine zy ?_
    refine ZAE rfl rfl rfl rfl (ZAb rfl rfl) (fun h13=>?_) (fun h13=>?_)
    ·have hp:ZA8 x=7:=by rw[ZA8,if_neg hP,if_pos (.inr (ZBJ h15))]
     rw[hp,if_pos (by decide)] at hgo;refine zy ?_;refine ZAC (ZAD rfl ⟨?_,hE1.trans hX⟩);rw[e0,hgo];rfl
    ·exact (h13 (by decide)).elim
   have hp:ZA8 x=0:=by rw[ZA8,if_neg hP,if_neg (fun e=>e.elim (ZBI h14) (ZBI h15))]
   rw[if_neg (fun e=>e hp)] at hgo;refine zy ?_;refine ZAE rfl rfl rfl rfl (ZAb rfl rfl) (fun h13=>?_) (fun h13=>?_)
   ·exact absurd h9 h13
   refine zy ?_;refine ZC8 rfl rfl Und.h Tsz.h Zr.h rfl rfl rfl rfl rfl fun h12 hE12 hW12 hg12 hn12=>?_;refine ZGx (k:=1) (l:=[str x.name]) hW1 (hX.trans hE12) rfl rfl rfl rfl rfl Und.h inferInstance rfl rfl (hO.ext hE12) (ZBC Und.h (by intro k;simp) (ZAd hg12 rfl)) rfl rfl (by omega) (by omega) (by omega) fun v13 h13 hO13 hE13 hK13=>?_;refine zy ?_;refine⟨(k+1,v13),?_,rfl,hk',hE13,?_,?_,rfl,rfl,rfl,trivial⟩
   ·show t.packs.length-(k+1)<t.packs.length-k;omega
   ·rw[htk];simpa using hO13
   ·rw[htk,List.map_append];exact hgo
  ·rw[if_pos h9] at hgo
   refine zy ?_;refine ZAE rfl rfl rfl rfl (ZAX rfl rfl) (fun h12=>?_) (fun h12=>?_)
   ·exact absurd h12 h9
   refine zy ?_;refine ZAE rfl rfl rfl rfl (ZAb rfl rfl) (fun h10=>?_) (fun h10=>?_)
   ·refine zy ?_
    refine ZAC (ZAD rfl ⟨?_,hE1.trans hX⟩);rw[e0,hgo];rfl
   ·exact absurd h9 h10
 have hgN:goNm ScPk.name ZA8 0 [] t.packs=none:=by
  have hk2:k=t.packs.length:=by omega
  rw[hgo,hk2,List.drop_length];rfl
 rw[hgN] at e0;replace e0:ZAw t=_:=e0;clear hgo hgN hall hO;rw[show ∀x,orE 6 none x=x from fun _=>rfl] at e0;clear h6 hk;refine zy ?_;refine ZAT (fun (k:Nat) m ds h'=>ds=[]/\k<=t.keys.length/\Ext h0 h'/\goEa (ZCJ t) 0 t.keys=goEa (ZCJ t) k (t.keys.drop k)/\AllK m [(1,.pointer (some ⟨b1,0,none⟩)),(18,i64 k)]) (fun k=>t.keys.length-k) 0 ?_ ?_
 ·exact⟨rfl,Nat.zero_le _,hX,rfl,rfl,rfl,trivial⟩
 clear hX hg1';rintro k m ds h7 ⟨rfl,hk,hX,hgo,hall⟩;have hg1':=hX.get hg1;refine Wc.le ?_ (Le.kn hall);refine zy ?_;refine ZAE rfl rfl rfl rfl (ZAW rfl rfl) (fun h6=>?_) (fun h6=>?_)
 ·have hk':k<t.keys.length:=by simpa using h6
  have hdr:t.keys.drop k=t.keys[k]::t.keys.drop (k+1):=List.drop_eq_getElem_cons hk';have htk:t.keys.take (k+1)=t.keys.take k++[t.keys[k]]:=by rw[List.take_add_one,List.getElem?_eq_getElem hk'];rfl
  rw[hdr,goEa] at hgo;obtain⟨b,o,oa,rfl,row,hrow,hma⟩:=m7 k hk';have hxm:=List.getElem_mem hk';generalize hmk:t.keys[k]=x at *;obtain rfl:=hma;have hrow7:=hX.row hrow;refine zy ?_;refine ZAI rfl rfl rfl rfl (A_ix Und.h Tsz.h rfl rfl) ?_;refine zy ?_;refine ZAh rfl rfl Zr.h Tsz.h rfl (fun _=>rfl) rfl rfl rfl fun h8 hE8 hW8 hg8 hn8=>?_;replace hX:=hX.trans hE8;replace hg1':=hE8.get hg1';generalize h7.nx=bk at *;refine zy ?_;refine ZAS rfl rfl rfl rfl rfl Bod.h rfl rfl (ZDY x.window _ _ _) fun h9 hE9=>?_;replace hX:=hX.trans hE9;replace hg1':=hE9.get hg1';replace hg8:=hE9.get hg8;refine zy ?_;refine ZAP rfl rfl rfl rfl rfl Bod.h rfl rfl (ZBb _ _ _ _) (fun h14=>?_) (fun h14=>?_)
  rotate_left
  ·refine zy ?_
   refine ZAE rfl rfl rfl rfl (ZAb rfl rfl) (fun h13=>?_) (fun h13=>?_)
   ·have hp:ZCJ t x=4:=by rw[ZCJ,if_pos (.inl (ZBJ h14))]
    rw[hp,if_pos (by decide)] at hgo;refine zy ?_;refine ZAC (ZAD rfl ⟨?_,hE1.trans hX⟩);rw[e0,hgo];rfl
   ·exact (h13 (by decide)).elim
  refine zy ?_;refine ZAP rfl rfl rfl rfl rfl Bod.h rfl rfl (ZBb _ _ _ _) (fun h15=>?_) (fun h15=>?_);rotate_left
  ·refine zy ?_
   refine ZAE rfl rfl rfl rfl (ZAb rfl rfl) (fun h13=>?_) (fun h13=>?_)
   ·have hp:ZCJ t x=4:=by rw[ZCJ,if_pos (.inr (ZBJ h15))]
    rw[hp,if_pos (by decide)] at hgo;refine zy ?_;refine ZAC (ZAD rfl ⟨?_,hE1.trans hX⟩);rw[e0,hgo];rfl
   ·exact (h13 (by decide)).elim
  have hp:ZCJ t x=oddS x.window 0 57600:=by rw[ZCJ,if_neg (fun e=>e.elim (ZBI h14) (ZBI h15))]
  rw[hp] at hgo;refine zy ?_;refine ZAE rfl rfl rfl rfl (ZAb rfl rfl) (fun h13=>?_) (fun h13=>?_)
  ·refine zy ?_
   refine ZAC (ZAD rfl ⟨?_,hE1.trans hX⟩);rw[if_pos h13] at hgo;rw[e0,hgo];rfl
  rw[if_neg h13] at hgo;refine zy ?_;refine⟨k+1,?_,rfl,hk',hX,hgo,rfl,rfl,trivial⟩
  show t.keys.length-(k+1)<t.keys.length-k;omega
 have hgN:goEa (ZCJ t) 0 t.keys=none:=by
  have hk2:k=t.keys.length:=by omega
  rw[hgo,hk2,List.drop_length];rfl
 rw[hgN] at e0;replace e0:ZAw t=_:=e0;clear hgo hgN hall;rw[show ∀x,orE 7 none x=x from fun _=>rfl] at e0;clear h6 hk;refine zy ?_;refine ZAT (fun (k:Nat) m ds h'=>ds=[]/\k<=t.loans.length/\Ext h0 h'/\goEa (ZA3 t) 0 t.loans=goEa (ZA3 t) k (t.loans.drop k)/\AllK m [(1,.pointer (some ⟨b1,0,none⟩)),(21,i64 k)]) (fun k=>t.loans.length-k) 0 ?_ ?_
 ·exact⟨rfl,Nat.zero_le _,hX,rfl,rfl,rfl,trivial⟩
 clear hX hg1';rintro k m ds h7 ⟨rfl,hk,hX,hgo,hall⟩;have hg1':=hX.get hg1;refine Wc.le ?_ (Le.kn hall);refine zy ?_;refine ZAE rfl rfl rfl rfl (ZAW rfl rfl) (fun h6=>?_) (fun h6=>?_)
 ·have hk':k<t.loans.length:=by simpa using h6
  have hdr:t.loans.drop k=t.loans[k]::t.loans.drop (k+1):=List.drop_eq_getElem_cons hk';have htk:t.loans.take (k+1)=t.loans.take k++[t.loans[k]]:=by rw[List.take_add_one,List.getElem?_eq_getElem hk'];rfl
  rw[hdr,goEa] at hgo;obtain⟨b,o,oa,rfl,row,hrow,hma⟩:=m8 k hk';have hxm:=List.getElem_mem hk';generalize hmk:t.loans[k]=x at *;obtain rfl:=hma;have hrow7:=hX.row hrow;refine zy ?_;refine ZAI rfl rfl rfl rfl (A_ix Und.h Tsz.h rfl rfl) ?_;refine zy ?_;refine ZAh rfl rfl Zr.h Tsz.h rfl (fun _=>rfl) rfl rfl rfl fun h8 hE8 hW8 hg8 hn8=>?_;replace hX:=hX.trans hE8;replace hg1':=hE8.get hg1';generalize h7.nx=bk at *;refine zy ?_;refine ZAS rfl rfl rfl rfl rfl Bod.h rfl rfl (ZDY x.days _ _ _) fun h9 hE9=>?_;replace hX:=hX.trans hE9;replace hg1':=hE9.get hg1';replace hg8:=hE9.get hg8;refine zy ?_;refine ZAP rfl rfl rfl rfl rfl Bod.h rfl rfl (ZBb _ _ _ _) (fun h14=>?_) (fun h14=>?_)
  rotate_left
  ·refine zy ?_
   refine ZAE rfl rfl rfl rfl (ZAb rfl rfl) (fun h13=>?_) (fun h13=>?_)
   ·have hp:ZA3 t x=4:=by rw[ZA3,if_pos (.inl (ZBJ h14))]
    rw[hp,if_pos (by decide)] at hgo;refine zy ?_;refine ZAC (ZAD rfl ⟨?_,hE1.trans hX⟩);rw[e0,hgo];rfl
   ·exact (h13 (by decide)).elim
  refine zy ?_;refine ZAP rfl rfl rfl rfl rfl Bod.h rfl rfl (ZBb _ _ _ _) (fun h15=>?_) (fun h15=>?_);rotate_left
  ·refine zy ?_
   refine ZAE rfl rfl rfl rfl (ZAb rfl rfl) (fun h13=>?_) (fun h13=>?_)
   ·have hp:ZA3 t x=4:=by rw[ZA3,if_pos (.inr (ZBJ h15))]
    rw[hp,if_pos (by decide)] at hgo;refine zy ?_;refine ZAC (ZAD rfl ⟨?_,hE1.trans hX⟩);rw[e0,hgo];rfl
   ·exact (h13 (by decide)).elim
  have hp:ZA3 t x=oddS x.days 0 80000:=by rw[ZA3,if_neg (fun e=>e.elim (ZBI h14) (ZBI h15))]
  rw[hp] at hgo;refine zy ?_;refine ZAE rfl rfl rfl rfl (ZAb rfl rfl) (fun h13=>?_) (fun h13=>?_)
  ·refine zy ?_
   refine ZAC (ZAD rfl ⟨?_,hE1.trans hX⟩);rw[if_pos h13] at hgo;rw[e0,hgo];rfl
  rw[if_neg h13] at hgo;refine zy ?_;refine⟨k+1,?_,rfl,hk',hX,hgo,rfl,rfl,trivial⟩
  show t.loans.length-(k+1)<t.loans.length-k;omega
 have hgN:goEa (ZA3 t) 0 t.loans=none:=by
  have hk2:k=t.loans.length:=by omega
  rw[hgo,hk2,List.drop_length];rfl
 rw[hgN] at e0;replace e0:ZAw t=_:=e0;clear hgo hgN hall;rw[show ∀x,orE 8 none x=x from fun _=>rfl] at e0;clear h6 hk;refine zy ?_;exact ZAC (ZAD rfl ⟨by rw[e0];rfl,hE1.trans hX⟩)
theorem ZFk:∀P:List ScL,allOne (P.flatMap ZAz)=true
 | []=>rfl
 | p::P=>by
  rw[List.flatMap_cons]
  show allOne (i64 p.print::i64 p.venue::i64 p.days.lo::i64 p.days.hi::P.flatMap ZAz)=true
  have:=ZFk P;simp only[allOne,List.all_cons] at this ⊢;rw[this];rfl
theorem ZPA (L:List ScL){i:Nat}(hi:i<=L.length):(L.flatMap ZAz).take (i*(3+1))=(L.take i).flatMap ZAz:=by
 have e:L.flatMap ZAz=(L.take i).flatMap ZAz++(L.drop i).flatMap ZAz:=by rw[<-List.flatMap_append,List.take_append_drop]
 rw[e];exact List.take_left' (by rw[ZBg,List.length_take];omega)
theorem ZOi (L:List ScL){i:Nat}(hi:i<=L.length):(L.flatMap ZAz).drop (i*(3+1))=(L.drop i).flatMap ZAz:=by
 have e:L.flatMap ZAz=(L.take i).flatMap ZAz++(L.drop i).flatMap ZAz:=by rw[<-List.flatMap_append,List.take_append_drop]
 rw[e];exact List.drop_left' (by rw[ZBg,List.length_take];omega)
theorem ZPh {t:ScT}{a b:ScL}{n:Int}(hn:trv t (vlG t a) (vlG t b)=n):badP t a b ↔ n<0\/b.days.lo-a.days.hi<=n:=by unfold badP;rw[hn]
set_option maxHeartbeats 2000000 in
theorem ZQ6 {tc lr:List Value}{t:ScT}{gr:List ScL}{ag:Option Addr}{cg:Nat}{x:ScL}{h:Heap}(ht:ZBX h tc t)(hG:ZAN 4 ScLR h ag gr)(hO:ScOk t)(hgr:∀y∈gr,ZA3 t y=0)(hlen:gr.length<=30)(hx:ZA3 t x=0)(hr:ScLR h lr x) :
  Sv Tryz.prog 140 [.agg ⟨tc⟩,.slice ag gr.length cg,.agg ⟨lr⟩] h (RetP fun v h'=>v=.bool (!ZD4 t gr x)/\Ext h h'):=by
 obtain⟨al,cl,at',ct,a1,c1,a2,c2,a3,c3,a4,c4,a5,c5,a6,c6,rfl,m1,m2,m3,m4,m5,m6,m7,m8⟩:=ht;obtain rfl:=hr;obtain⟨⟨x1,x2⟩,⟨x3,x4⟩,x5,x6,x7⟩:=ZMs hx;obtain⟨y1,y2⟩:=ZOe hO x1 x2;have q1:=hO.lands;have q2:=hO.venues1;have q3:=hO.prints1;obtain⟨tl1,tl2⟩:=ZLq hO;refine ZAy fun hw=>?_;refine ZAH Tryz.func140 rfl (by rw[Tryz.ntmps140];rfl) ?_;show Wc Tryz.prog ⟨140,164,none⟩ _ _ _ _ _;refine zy ?_;refine ZAa rfl rfl rfl fun h0 hE0 hW0 hg0 hn0=>?_;refine ZAa rfl rfl rfl fun h1 hE01 hW1 hg1 hn1=>?_;replace hg0:=hE01.get hg0;have hE1:=hE0.trans hE01;replace m2:=ZAN.ext (R:=ZCG) (fun x y=>ZCG.ext x y) m2 hE1
 replace m3:=ZAN.ext (R:=ScVR) (fun x _=>x) m3 hE1;replace m5:=ZAN.ext (R:=ScPR) (fun x y=>ScPR.ext x y) m5 hE1;replace hG:=ZAN.ext (R:=ScLR) (fun x _=>x) hG hE1;clear hW0 hn1 hn0;generalize h.nx=bt at *;generalize h0.nx=bx at *;clear hE0 hE01;clear h0;refine zy ?_;refine ZC8 rfl rfl Und.h Tsz.h Zr.h rfl rfl rfl rfl rfl fun h2 hE2 hW2 hg2 hn2=>?_;have hO2:Own h1 h2 [slI h1 (.slice (some ⟨h1.nx,0,none⟩) 1 1) 51 4 ((ofGk gr x 0).flatMap ZAz) (ofGk gr x 0).length]:=(Own.nil h1 h1).newSl hW1 (Nat.le_refl _) hE2 (ZAG.lit hg2 rfl (Nat.le_refl _));generalize (Value.slice (some ⟨h1.nx,0,none⟩) 1 1)=v0 at *
 clear hg2 hn2;refine zy ?_
 refine ZAT (fun (s:Nat×Value) m ds h'=>ds=[]/\s.1<=gr.length/\Ext h1 h'/\Own h1 h' [slI h1 s.2 51 4 ((ofGk gr x s.1).flatMap ZAz) (ofGk gr x s.1).length] ∧
   AllK m [(1,.slice ag gr.length cg),(3,.pointer (some ⟨bt,0,none⟩)),(5,.pointer (some ⟨bx,0,none⟩)),(7,s.2),(8,i64 s.1)]) (fun s=>gr.length-s.1) (0,v0) ?_ ?_
 ·exact⟨rfl,Nat.zero_le _,hE2,hO2,rfl,rfl,rfl,rfl,rfl,trivial⟩
 clear hO2 hE2 hW2;rintro⟨k,v⟩ m ds h3 ⟨rfl,hk,hE3,hO3,hall⟩;simp only at hk hO3 hall;have k0:=hE3.get hg0;have k1:=hE3.get hg1;have hLn:=ZL8 (x:=x) hk;refine Wc.le ?_ (Le.kn hall);refine zy ?_;refine ZAE rfl rfl rfl rfl (ZAW rfl rfl) (fun h4=>?_) (fun h4=>?_)
 ·have hk':k<gr.length:=by simpa using h4
  have hgs:=ZJf (x:=x) hk';obtain⟨b',o,oa,rfl,row,hrow,hma⟩:=hG k hk';have hyok:=hgr _ (List.getElem_mem hk');generalize hmk:gr[k]=y at *;obtain rfl:=hma;have hrow3:=hE3.row hrow;have hrow1:=hrow;have hcp:ZAc h3 b' (o+k*4+0)=some (i64 y.print):=ZAR hrow3 rfl;refine zy ?_;refine ZAJ hmix [0,0,3,7,15,0,32,127] [0,1,2,3,4,5,6,7] none [] (by kernel_rfl) (by kernel_rfl) ?_;refine z_m ?_;refine z_m ?_;refine z_i ?_;refine z_f ?_;refine z_l ?_;refine z_f ?_;refine z_l ?_;refine ZKK rfl rfl rfl rfl rfl (fun _=>ZAb rfl rfl) (fun h5=>?_) (fun h5=>?_)
  ·refine ZAM (ZAA rfl) nb' ?_
   rw[if_neg h5] at hgs;refine zy ?_;refine⟨(k+1,v),?_,rfl,hk',hE3,?_,rfl,rfl,rfl,rfl,rfl,trivial⟩
   ·show gr.length-(k+1)<gr.length-k;omega
   ·simp only[hgs];exact hO3
  rw[if_pos (Decidable.not_not.1 h5)] at hgs;refine ZAM (ZAA rfl) nb' ?_;generalize hL:ofGk gr x k=L at *;have hclo:ZAc h3 b' (o+k*4+2+0)=some (i64 y.days.lo):=ZAR (k:=2) hrow3 rfl;obtain⟨aL,cL,rfl,hLr⟩:=ZCq (show ZAG h1 h3 v 51 4 _ _ from hO3.p1);refine zy ?_
  refine Wc.mono (Q:=fun z m' ds' h'=>z=.exit 2/\ds'=[]/\h3=h'/\∃i,i<=L.length/\(∀j (hj:j<L.length),j<i->L[j].days.lo<y.days.lo)/\(∀h:i<L.length,¬L[i].days.lo<y.days.lo) ∧
    AllK m' [(1,.slice (some ⟨b',o,oa⟩) gr.length cg),(3,.pointer (some ⟨bt,0,none⟩)),(5,.pointer (some ⟨bx,0,none⟩)),(7,.slice aL L.length cL),(8,i64 k),(9,i64 i)]) ?_ ?_
  ·refine ZAT (fun (i:Nat) m ds h'=>ds=[]/\h3=h'/\i<=L.length/\(∀j (hj:j<L.length),j<i->L[j].days.lo<y.days.lo) ∧
     AllK m [(1,.slice (some ⟨b',o,oa⟩) gr.length cg),(3,.pointer (some ⟨bt,0,none⟩)),(5,.pointer (some ⟨bx,0,none⟩)),(7,.slice aL L.length cL),(8,i64 k),(9,i64 i)]) (fun i=>L.length-i) 0 ?_ ?_
   ·exact⟨rfl,rfl,Nat.zero_le _,(fun _ _ hj=>by omega),rfl,rfl,rfl,rfl,rfl,rfl,trivial⟩
   clear hall;rintro i m ds h' ⟨rfl,rfl,hi,hlo,hall⟩;refine Wc.le ?_ (Le.kn hall);refine zy ?_
   by_cases h6:i<L.length
   rotate_left
   ·refine ZAJ hmix [0,0,2,7,15,31,31,127,255,511,1023,31,31,6175,14367,30751,63519,131071,262143] [0,1,2,3,4,5,6,7,8,9,10,11,12,13,14,15,16,17,18] none [] (by kernel_rfl) (by kernel_rfl) ?_
    refine z_m ?_;refine z_m ?_;refine z_c ?_;refine ZAB rfl rfl rfl rfl rfl (fun _=>A_ff (by omega) (ZAW rfl rfl)) ?_;refine z_m ?_;refine g_m ?_;refine g_m ?_;refine g_i ?_;refine g_f ?_;refine g_f ?_;refine g_l ?_;refine g_m ?_;refine g_m ?_;refine g_i ?_;refine g_f ?_;refine g_f ?_;refine g_l ?_;refine z_o ?_;refine z_p ?_;refine ZAM (ZAA rfl) nb' ?_;refine zy ?_;exact⟨rfl,rfl,rfl,i,hi,hlo,(fun h=>absurd h h6),rfl,rfl,rfl,rfl,rfl,rfl,trivial⟩
   have hi':i<L.length:=h6;obtain⟨b2,o2,oa2,rfl,row2,hrow2,hma2⟩:=hLr i hi';obtain rfl:=hma2;have hc2:ZAc h3 b2 (o2+i*4+2+0)=some (i64 L[i].days.lo):=ZAR (k:=2) hrow2 rfl;refine ZAJ hmix [0,0,2,7,15,31,31,127,255,511,1023,31,31,6175,14367,30751,63519,131071,262143] [0,1,2,3,4,5,6,7,8,9,10,11,12,13,14,15,16,17,18] none [] (by kernel_rfl) (by kernel_rfl) ?_;refine z_m ?_;refine z_m ?_;refine z_c ?_;refine ZAB rfl rfl rfl rfl rfl (fun _=>A_tt (by omega) (ZAW rfl rfl)) ?_;refine z_m ?_;refine g_m ?_;refine g_m ?_;refine g_i ?_;refine g_f ?_;refine g_f ?_;refine g_l ?_;refine g_m ?_;refine g_m ?_;refine g_i ?_;refine g_f ?_;refine g_f ?_;refine g_l ?_
   refine ZKK rfl rfl rfl rfl rfl (fun _=>ZAW rfl rfl) (fun h7=>?_) (fun h7=>?_)
   ·refine z_p ?_
    refine ZAM (ZAA rfl) nb' ?_;refine zy ?_;refine⟨i+1,(by show L.length-(i+1)<L.length-i;omega),rfl,rfl,hi',?_,rfl,rfl,rfl,rfl,rfl,rfl,trivial⟩;intro j hj hlt
    rcases Nat.lt_or_ge j i with g|g
    ·exact hlo j hj g
    ·have:j=i:=by omega
     subst this;exact h7
   ·refine z_p ?_
    refine ZAM (ZAA rfl) nb' ?_;refine zy ?_;exact⟨rfl,rfl,rfl,i,hi,hlo,(fun _=>h7),rfl,rfl,rfl,rfl,rfl,rfl,trivial⟩
  clear hall;rintro _ m _ _ ⟨rfl,rfl,rfl,i,hi,hlo,hhi,hall⟩
  show Wc _ _ _ _ _ _ _
  refine Wc.le ?_ (Le.kn hall);have hins:=ZNy hi hlo hhi;rw[hins] at hgs;have hF3:ZAG h1 h3 (.slice aL L.length cL) 51 (3+1) (L.flatMap ZAz) L.length:=hO3.p1;have hLpos:0<L.length:=by omega
  obtain⟨w1,hz1,hA1⟩:=ZM7 (P:=Tryz.prog) (ki:=.i64) (t:=29) (tX:=29) (dd:=.slice 51) hF3 hLpos Und.h Tsz.h Und.h (by intro k;simp) hi;obtain⟨w2,hz2,hA2⟩:=ZKM (P:=Tryz.prog) (ki:=.i64) (t:=29) (tX:=29) (dd:=.slice 51) hF3 hLpos Und.h Tsz.h Und.h (by intro k;simp) hi;have hcut1:(L.flatMap ZAz).take (i*(3+1))=(L.take i).flatMap ZAz:=ZPA _ hi;have hcut2:(L.flatMap ZAz).drop (i*(3+1))=(L.drop i).flatMap ZAz:=ZOi _ hi;rw[hcut1] at hz1;rw[hcut2] at hz2;have hti:(L.take i).length=i:=by rw[List.length_take];omega
  have hdi:(L.drop i).length=L.length-i:=List.length_drop;refine ZDG fun hw3=>?_;have hEa0:=Ext.add hw3 (.cells [] 51 false);have hEa:=hEa0.trans (Ext.rsv (Heap.add h3 (.cells [] 51 false)));have hOa0:Own h1 (Heap.add h3 (.cells [] 51 false)) [slI h1 (.slice (some ⟨h3.nx,0,none⟩) 0 0) 51 4 [] 0,slI h1 (.slice aL L.length cL) 51 4 (L.flatMap ZAz) L.length]:=hO3.newSl hw3 hE3.2.1 hEa0 (ZAG.lit Heap.get_add_same rfl (Nat.le_refl _));have hne:=hOa0.ne (hw3.add _) (Nat.le_refl (h3.nx+1));have hn3:=hE3.2.1;have hkk:gr.length<=30:=hlen;refine zy ?_;refine ZAJ hmix [0,0,0,6,15,0,0,96,224,480,1023,0,0,6144,16383,32767] [0,1,2,3,5,6,7,8,9,11,12,13] (some 4) [([],(some 10)),([],(some 14)),([],(some 15)),([],none)] (by kernel_rfl) (by kernel_rfl) ?_
  refine ZCb (nk:=.sl _ _) rfl rfl rfl rfl rfl (fun _ _ hs=>N_bs hs Und.h Tsz.h Zr.h rfl rfl rfl rfl rfl) ?_;refine z_m ?_;refine z_m ?_;refine ZAB rfl rfl rfl rfl rfl (fun _=>hA1 rfl rfl) ?_;refine z_m ?_;refine z_m ?_;refine z_i ?_;refine z_r ?_;refine ZCb (nk:=.sl _ _) rfl rfl rfl rfl rfl (fun _ _ hs=>N_bs hs Und.h Tsz.h Zr.h rfl rfl rfl rfl rfl) ?_;refine z_m ?_;refine z_m ?_;refine ZAB rfl rfl rfl rfl rfl (fun _=>hA2 rfl rfl) ?_;refine ZAF (h1:=(rsv (Heap.add h3 _))) [0,1,2,3] (by kernel_rfl) rfl (ZAA rfl) rfl rfl rfl (ZBS (ZFq (n1:=h3.nx+1) (by':=32) (sz:=4) (k:=i) (n:=0) (l:=(L.take i).flatMap ZAz) rfl hW1 (hE3.trans hEa) rfl rfl rfl rfl Und.h inferInstance rfl rfl (hOa0.ext (Ext.rsv _)) (hz1 _ h1 (hF3.ext hEa)) (by rw[ZBg,hti]) (ZFk _) (by omega) (by omega) hne (Nat.lt_succ_self _) (fun v12 h12 hO13 hE12 hne12 hn12 hw12=>?_)))
  have hU12:=Upd.mk' h12 (h3.nx+1) (.cells (ZAz y) 51 false);have hO13':=hO13.other (.cells (ZAz y) 51 false) hne12;have hE12':=hU12.ext hE12 hW1 (Nat.le_succ_of_le hn3);have hrow12:=hE12.row hrow1;have hrow12':=hE12'.row hrow1;rw[List.nil_append,Nat.zero_add] at hO13';refine ZAF (h1:=(h12.set (h3.nx+1) (.cells (ZAz y) 51 false))) [0,1,2,3,4,5,6,7,8,9] (by kernel_rfl) rfl (by refine ZAY (i:=13) rfl rfl rfl rfl rfl (fun _=>hA2 rfl rfl) rfl ?_;refine t_m 12 ?_;refine t_m 11 ?_;refine ZK9 (i:=9) (nk:=.sl _ _) rfl rfl rfl rfl rfl (fun _ _ hs=>N_bs hs Und.h Tsz.h Zr.h rfl rfl rfl rfl rfl) rfl ?_;refine t_r 8 ?_;refine t_i 7 ?_;refine t_m 6 ?_;refine t_m 5 ?_;exact ZAA rfl) rfl rfl rfl (ZBS (ZDW (by':=32) (sz:=4) (k:=1) (n:=i) (l:=ZAz y) rfl hW1 hE12' rfl rfl rfl rfl Und.h inferInstance rfl rfl hO13' ((ZAG.lit (h0:=h1) (n:=1) (sz:=4) hU12.at' rfl (Nat.le_succ_of_le hn3)).src (dd:=.slice 51) Und.h (by intro k;simp)) rfl rfl (by omega) (by omega) (fun v14 h14 hO15 hE14 hw14=>?_)))
  have hF15:ZAG h1 h14 (.slice aL L.length cL) 51 (3+1) (L.flatMap ZAz) L.length:=hO15.at 1 rfl;refine ZAF (h1:=h14) [0,1,2,3,4,5,6,7,8,9,10,11,12,13] (by kernel_rfl) rfl (by refine ZAY (i:=13) rfl rfl rfl rfl rfl (fun _=>hA2 rfl rfl) rfl ?_;refine t_m 12 ?_;refine t_m 11 ?_;exact ZAA rfl) rfl rfl rfl (ZBS (ZDW (by':=32) (sz:=4) (k:=L.length-i) (n:=i+1) (l:=(L.drop i).flatMap ZAz) rfl hW1 hE14 rfl rfl rfl rfl Und.h inferInstance rfl rfl hO15 (hz2 _ h1 hF15) (by rw[ZBg,hdi]) (ZFk _) (by omega) (by omega) (fun v16 h16 hO17 hE16 hw16=>?_)));refine ZAF (h1:=h16) [0,1,2,3,4,5,6,7,8,9,10,11,12,13,14] (by kernel_rfl) rfl (ZAA rfl) rfl rfl rfl (ZAj rfl rfl (ZAO rfl) ?_)
  refine ZAM (h1:=h16) (ZAA rfl) rfl ?_;refine zy ?_;refine⟨(k+1,v16),?_,rfl,hk',hE16,?_,rfl,rfl,rfl,rfl,rfl,trivial⟩
  ·show gr.length-(k+1)<gr.length-k;omega
  ·have e1:(ofGk gr x (k+1)).flatMap ZAz=(L.take i).flatMap ZAz++ZAz y++(L.drop i).flatMap ZAz:=by rw[hgs,List.flatMap_append,List.flatMap_cons,List.append_assoc]
   have e2:(ofGk gr x (k+1)).length=i+1+(L.length-i):=by rw[hgs,List.length_append,List.length_cons,hti,hdi];omega
   rw[e1,e2];exact hO17.sub (.cons_cons _ (List.nil_sublist _))
 have hk2:k=gr.length:=by omega
 subst hk2;have hL0:ofGk gr x gr.length=ofG gr x:=by unfold ofGk;rw[List.take_length]
 rw[hL0] at hO3 hLn;have hgS:ZD4 t gr x=canG t (ZFG t x.print) (ofG gr x):=rfl
 have hLok:∀y∈ofG gr x,ZA3 t y=0:=fun y hy=>by
  rw[<-hL0] at hy
  rcases ZQJ y hy with e|g
  ·rw[e];exact hx
  ·exact hgr y g
 rw[hgS];clear hgS hL0 hall;generalize ofG gr x=L at *;obtain⟨aL,cL,rfl,hLr⟩:=ZCq (show ZAG h1 h3 v 51 4 _ _ from hO3.p1);have hpos:0<L.length:=by omega
 have hiff:=ZPO (t:=t) (home:=ZFG t x.print) hpos;obtain⟨bp,op,oap,rfl,hcp⟩:=ZLN (ZAN.ext (R:=ScPR) (fun x y=>ScPR.ext x y) m5 hE3) x1 x2;generalize hhm:ZFG t x.print=hm at *;have n2:=ZAN.ext (R:=ZCG) (fun x y=>ZCG.ext x y) m2 hE3;have n3:=ZAN.ext (R:=ScVR) (fun x _=>x) m3 hE3
 have hvl:∀j (hj:j<L.length),(0<=L[j].venue/\L[j].venue<t.venues.length)/\(0<=vlG t L[j]/\vlG t L[j]<t.lands.length)/\(0<=L[j].days.lo/\L[j].days.lo<=L[j].days.hi/\L[j].days.hi<=80000):=fun j hj=>by
  obtain⟨-,⟨w3,w4⟩,w5,w6,w7⟩:=ZMs (hLok _ (List.getElem_mem hj));exact⟨⟨w3,w4⟩,ZID hO w3 w4,w5,w6,w7⟩
 have hcv:∀j (hj:j<L.length),∃b o oa,aL=some ⟨b,o,oa⟩/\ZAc h3 b (o+j*4+1)=some (i64 L[j].venue)/\ZAc h3 b (o+j*4+2+0)=some (i64 L[j].days.lo)/\ZAc h3 b (o+j*4+2+1)=some (i64 L[j].days.hi):=fun j hj=>by
  obtain⟨b,o,oa,e,row,hrow,hma⟩:=hLr j hj;obtain rfl:=hma;exact⟨b,o,oa,e,ZAR (k:=1) hrow rfl,ZAR (k:=2) hrow rfl,ZAR (k:=3) hrow rfl⟩
 obtain⟨bL,oL,oaL,rfl,d1,-,-⟩:=hcv 0 hpos;obtain⟨v1,v2,-⟩:=hvl 0 hpos;obtain⟨bv,ov,oav,rfl,hcv1⟩:=ZJS n3 v1.1 v1.2;obtain⟨btr,otr,oatr,rfl,bt1,ot1,oat1,ct1,hct,hct',u1,u2,u3⟩:=ZJk hO n2 y1 y2 v2.1 v2.2;replace hcv1:ZAc h3 bv (ov+L[0].venue.toNat*9+1)=some (i64 (vlG t L[0])):=hcv1;refine zy ?_;refine ZAI rfl rfl rfl rfl (ZAK (k:=x.print.toNat) Und.h Tsz.h rfl rfl (by omega) (by omega)) ?_;refine zy ?_;have hlast:(L.length-1:Nat)<L.length:=by omega
 have hfalse:ZRT t hm L->canG t hm L=false:=fun hw=>by rw[<-Bool.not_eq_true,hiff,Classical.not_not];exact hw
 by_cases c1:trv t hm (vlG t L[0])<0
 ·refine ZAJ hmix [0,1,0,7,15,0,32,0,128,384,896,2016,4064,8160,16383,32767,65535,131071,262143,524287,262143,1310719,262143,262143,8650751,25427967,63176703,130285567,264503295,536084479,1072955391,2146697215,4294967295,8589934591,262143,34359738367,68719476735,137438953471,274877906943] [0,1,2,3,4,5,6,7,8,9,10,11,12,13,14,15,16,17,18,19,20,21,22,23,24,25,26,27,28,29,30,31,32,33,34,35,36,37,38] none [] (by kernel_rfl) (by kernel_rfl) ?_
  refine z_f ?_;refine z_l ?_;refine z_m ?_;refine ZAB rfl rfl rfl rfl rfl (fun _=>ZAK (k:=hm.toNat) Und.h Tsz.h rfl rfl (by omega) (by omega)) ?_;refine z_l ?_;refine z_f ?_;refine z_l ?_;refine z_m ?_;refine ZAB rfl rfl rfl rfl rfl (fun _=>ZAK (k:=0) Und.h Tsz.h rfl rfl rfl hpos) ?_;refine z_f ?_;refine z_l ?_;refine ZAB rfl rfl rfl rfl rfl (fun _=>ZAK Und.h Tsz.h rfl rfl (Int.toNat_of_nonneg v1.1).symm (by omega)) ?_;refine z_f ?_;refine z_l ?_;refine ZAB rfl rfl rfl rfl rfl (fun _=>ZAK Und.h Tsz.h rfl rfl (Int.toNat_of_nonneg v2.1).symm (by omega)) ?_;refine z_l ?_;refine ZAB rfl rfl rfl rfl rfl (fun _=>A_tt c1 (ZAW rfl rfl)) ?_;refine z_m ?_;refine g_f ?_;refine g_l ?_;refine g_f ?_;refine g_l ?_;refine g_m ?_;refine g_m ?_;refine g_c ?_;refine g_u ?_;refine g_i ?_;refine g_f ?_;refine g_l ?_;refine g_i ?_;refine g_f ?_;refine g_l ?_;refine g_i ?_;refine g_l ?_;refine g_m ?_;refine g_i ?_;refine g_l ?_;refine z_o ?_;refine z_p ?_
  refine ZAM (ZAA rfl) nb' ?_;refine zy ?_;exact ZAC (ZAD rfl ⟨by rw[hfalse ⟨hpos,.inl (.inl c1)⟩];rfl,hE1.trans hE3⟩)
 obtain⟨bL',oL',oaL',eL,e1,-,-⟩:=hcv (L.length-1) hlast;cases eL;obtain⟨z1,z2,-⟩:=hvl (L.length-1) hlast;obtain⟨bv',ov',oav',eV,e2⟩:=ZJS n3 z1.1 z1.2;cases eV;obtain⟨btr',otr',oatr',eT,bt2,ot2,oat2,ct2,e3,e4,u4,u5,u6⟩:=ZJk hO n2 z2.1 z2.2 y1 y2;cases eT;replace e2:ZAc h3 bv (ov+L[L.length-1].venue.toNat*9+1)=some (i64 (vlG t L[L.length-1])):=e2;refine ZAJ hmix [0,1,0,7,15,0,32,0,128,384,896,2016,4064,8160,16383,32767,65535,131071,262143,524287,262143,1310719,262143,262143,8650751,25427967,63176703,130285567,264503295,536084479,1072955391,2146697215,4294967295,8589934591,262143,34359738367,68719476735,137438953471,274877906943] [0,1,2,3,4,5,6,7,8,9,10,11,12,13,14,15,16,17,18,19,20,21,22,23,24,25,26,27,28,29,30,31,32,33,34,35,36,37,38] none [] (by kernel_rfl) (by kernel_rfl) ?_
 refine z_f ?_;refine z_l ?_;refine z_m ?_;refine ZAB rfl rfl rfl rfl rfl (fun _=>ZAK (k:=hm.toNat) Und.h Tsz.h rfl rfl (by omega) (by omega)) ?_;refine z_l ?_;refine z_f ?_;refine z_l ?_;refine z_m ?_;refine ZAB rfl rfl rfl rfl rfl (fun _=>ZAK (k:=0) Und.h Tsz.h rfl rfl rfl hpos) ?_;refine z_f ?_;refine z_l ?_;refine ZAB rfl rfl rfl rfl rfl (fun _=>ZAK Und.h Tsz.h rfl rfl (Int.toNat_of_nonneg v1.1).symm (by omega)) ?_;refine z_f ?_;refine z_l ?_;refine ZAB rfl rfl rfl rfl rfl (fun _=>ZAK Und.h Tsz.h rfl rfl (Int.toNat_of_nonneg v2.1).symm (by omega)) ?_;refine z_l ?_;refine ZAB rfl rfl rfl rfl rfl (fun _=>A_ff c1 (ZAW rfl rfl)) ?_;refine z_m ?_;refine g_f ?_;refine g_l ?_;refine g_f ?_;refine g_l ?_;refine g_m ?_;refine g_m ?_;refine g_c ?_;refine g_u ?_
 first|refine ZAV rfl rfl rfl rfl ?_|refine ZAB rfl rfl rfl rfl rfl (fun _=>ZAK (k:=L.length-1) Und.h Tsz.h rfl rfl (by omega) hlast) ?_
 refine g_f ?_;refine g_l ?_
 first|refine ZAV rfl rfl rfl rfl ?_|refine ZAB rfl rfl rfl rfl rfl (fun _=>ZAK Und.h Tsz.h rfl rfl (Int.toNat_of_nonneg z1.1).symm (by omega)) ?_
 refine g_f ?_;refine g_l ?_
 first|refine ZAV rfl rfl rfl rfl ?_|refine ZAB rfl rfl rfl rfl rfl (fun _=>ZAK Und.h Tsz.h rfl rfl (Int.toNat_of_nonneg z2.1).symm (by omega)) ?_
 refine g_l ?_;refine g_m ?_
 first|refine ZAV rfl rfl rfl rfl ?_|refine ZAB rfl rfl rfl rfl rfl (fun _=>ZAK (k:=hm.toNat) Und.h Tsz.h rfl rfl (by omega) (by omega)) ?_
 refine g_l ?_;refine ZKK rfl rfl rfl rfl rfl (fun _=>ZAW rfl rfl) (fun h5=>?_) (fun h5=>?_)
 ·refine z_p ?_
  refine ZAM (ZAA rfl) nb' ?_;refine zy ?_;exact ZAC (ZAD rfl ⟨by rw[hfalse ⟨hpos,.inl (.inr h5)⟩];rfl,hE1.trans hE3⟩)
 refine z_p ?_;refine ZAM (ZAA rfl) nb' ?_;refine zy ?_
 refine ZAT (fun (i:Nat) m ds h'=>ds=[]/\h3=h'/\1<=i/\i<=L.length/\(∀j (hj:j+1<L.length),j+1<i->¬badP t (L[j]'(by omega)) L[j+1]) ∧
   AllK m [(3,.pointer (some ⟨bt,0,none⟩)),(7,.slice (some ⟨bL,oL,oaL⟩) L.length cL),(11,i64 i)]) (fun i=>L.length-i) 1 ?_ ?_
 ·exact⟨rfl,rfl,Nat.le_refl _,hpos,(fun _ _ hj=>by omega),rfl,rfl,rfl,trivial⟩
 rintro i m ds h' ⟨rfl,rfl,hi1,hi,hno,hall⟩;refine Wc.le ?_ (Le.kn hall);refine zy ?_;refine ZAE rfl rfl rfl rfl (ZAW rfl rfl) (fun h6=>?_) (fun h6=>?_)
 ·have hi':i<L.length:=by simpa using h6
  have him:i-1<L.length:=by omega
  obtain⟨bA,oA,oaA,eA,f1,f2,f3⟩:=hcv (i-1) him;cases eA;obtain⟨bB,oB,oaB,eB,g1,g2,g3⟩:=hcv i hi';cases eB;obtain⟨p1,p2,p3⟩:=hvl (i-1) him;obtain⟨r1,r2,r3⟩:=hvl i hi';obtain⟨bw,ow,oaw,eW,k3⟩:=ZJS n3 p1.1 p1.2;cases eW;obtain⟨bw',ow',oaw',eW',k4⟩:=ZJS n3 r1.1 r1.2;cases eW';obtain⟨btr',otr',oatr',eT,bt2,ot2,oat2,ct2,e3,e4,u4,u5,u6⟩:=ZJk hO n2 p2.1 p2.2 r2.1 r2.2;cases eT;replace k3:ZAc h3 bv (ov+L[i-1].venue.toNat*9+1)=some (i64 (vlG t L[i-1])):=k3;replace k4:ZAc h3 bv (ov+L[i].venue.toNat*9+1)=some (i64 (vlG t L[i])):=k4;have hbad:=ZPh (t:=t) (a:=L[i-1]) (b:=L[i]) rfl;have hst:(∀h:i-1+1<L.length,L[i-1+1]'h=L[i]):=fun h=>by congr 1;omega
  generalize hn:trv t (vlG t L[i-1]) (vlG t L[i])=n at *;have hF:badP t L[i-1] L[i]->canG t hm L=false:=fun hb=>hfalse ⟨hpos,.inr ⟨i-1,by omega,by rw[hst];exact hb⟩⟩
  have hT:¬badP t L[i-1] L[i]->∀j (hj:j+1<L.length),j+1<i+1->¬badP t (L[j]'(by omega)) L[j+1]:=fun hb j hj hlt=>by
   rcases Nat.lt_or_ge (j+1) i with g|g
   ·exact hno j hj g
   ·obtain rfl:i=j+1:=by omega
    exact hb
  refine zy ?_;refine ZAJ hmix [0,1,0,4,0,0,32,112,240,496,1020,2044,4092,8191,16383,0,32768,0,0,393216,917504,1966080,4161536,8355840,16744448,33554431,67108863,134217727] [0,1,2,3,4,5,6,7,8,9,10,11,12,13,14,15,16,17,18,19,20,21,22,23,24,25,26] (some 27) [([],none)] (by kernel_rfl) (by kernel_rfl) ?_;refine z_f ?_;refine z_l ?_;refine z_f ?_;refine z_l ?_;refine z_m ?_;refine z_m ?_;refine z_u ?_;refine ZAB rfl rfl rfl rfl rfl (fun _=>ZAK (k:=i-1) Und.h Tsz.h rfl rfl (by omega) him) ?_;refine z_f ?_;refine z_l ?_;refine ZAB rfl rfl rfl rfl rfl (fun _=>ZAK Und.h Tsz.h rfl rfl (Int.toNat_of_nonneg p1.1).symm (by omega)) ?_;refine z_f ?_;refine z_l ?_;refine ZAB rfl rfl rfl rfl rfl (fun _=>ZAK Und.h Tsz.h rfl rfl (Int.toNat_of_nonneg p2.1).symm (by omega)) ?_;refine z_l ?_;refine z_f ?_;refine z_l ?_;refine z_m ?_;refine z_m ?_;refine z_i ?_;refine z_f ?_;refine z_l ?_;refine ZAB rfl rfl rfl rfl rfl (fun _=>ZAK Und.h Tsz.h rfl rfl (Int.toNat_of_nonneg r1.1).symm (by omega)) ?_;refine z_f ?_;refine z_l ?_;refine ZAB rfl rfl rfl rfl rfl (fun _=>ZAK Und.h Tsz.h rfl rfl (Int.toNat_of_nonneg r2.1).symm (by omega)) ?_;refine z_l ?_
  refine ZAF [0,1,2,3,4,5,6,7,8,9,10,11,12,13,14,15,16,17,18,19,20,21,22,23,24,25,26] (by kernel_rfl) rfl (ZAA rfl) rfl nb rfl (ZAj rfl rfl (ZAO rfl) ?_);refine ZAM (ZAA rfl) nb' ?_;refine zy ?_
  by_cases c2:n<0
  ·refine ZAJ hmix [0,1,3,7,7,31,63,127,255,7,7,1031,3591,7687,15879,32263,65535,7,262143,524287] [0,1,2,3,4,5,6,7,8,9,10,11,12,13,14,15,16,17,18,19] none [] (by kernel_rfl) (by kernel_rfl) ?_
   refine z_m ?_;refine ZAB rfl rfl rfl rfl rfl (fun _=>A_tt c2 (ZAW rfl rfl)) ?_;refine z_m ?_;refine g_m ?_;refine g_m ?_;refine g_i ?_;refine g_f ?_;refine g_f ?_;refine g_l ?_;refine g_m ?_;refine g_m ?_;refine g_u ?_;refine g_i ?_;refine g_f ?_;refine g_f ?_;refine g_l ?_;refine g_u ?_;refine g_m ?_;refine z_o ?_;refine z_p ?_;refine ZAM (ZAA rfl) nb' ?_;refine zy ?_;exact ZAC (ZAD rfl ⟨by rw[hF (hbad.2 (.inl c2))];rfl,hE1.trans hE3⟩)
  refine ZAJ hmix [0,1,3,7,7,31,63,127,255,7,7,1031,3591,7687,15879,32263,65535,7,262143,524287] [0,1,2,3,4,5,6,7,8,9,10,11,12,13,14,15,16,17,18,19] none [] (by kernel_rfl) (by kernel_rfl) ?_;refine z_m ?_;refine ZAB rfl rfl rfl rfl rfl (fun _=>A_ff c2 (ZAW rfl rfl)) ?_;refine z_m ?_;refine g_m ?_;refine g_m ?_;refine g_i ?_;refine g_f ?_;refine g_f ?_;refine g_l ?_;refine g_m ?_;refine g_m ?_;refine g_u ?_
  first|refine ZAV rfl rfl rfl rfl ?_|refine ZAB rfl rfl rfl rfl rfl (fun _=>ZAK (k:=i-1) Und.h Tsz.h rfl rfl (by omega) him) ?_
  refine g_f ?_;refine g_f ?_;refine g_l ?_;refine g_u ?_;refine g_m ?_;refine ZKK rfl rfl rfl rfl rfl (fun _=>ZD7 rfl rfl) (fun h8=>?_) (fun h8=>?_)
  ·refine z_p ?_
   refine ZAM (ZAA rfl) nb' ?_;refine zy ?_;exact ZAC (ZAD rfl ⟨by rw[hF (hbad.2 (.inr h8))];rfl,hE1.trans hE3⟩)
  refine z_p ?_;refine ZAM (ZAA rfl) nb' ?_;refine zy ?_;exact⟨i+1,(by show L.length-(i+1)<L.length-i;omega),rfl,rfl,by omega,hi',hT (fun hb=>(hbad.1 hb).elim c2 h8),rfl,rfl,rfl,trivial⟩
 have hfin:canG t hm L=true:=by
  rw[hiff];rintro⟨_,(g|g)|⟨j,hj,g⟩⟩
  ·exact c1 g
  ·exact h5 g
  ·exact hno j hj (by omega) g
 rw[hfin];refine zy ?_;exact ZAC (ZAD rfl ⟨rfl,hE1.trans hE3⟩)
theorem ZKG {tc:List Value}{t:ScT}{h:Heap}(ht:ZBX h tc t)(hO:ScOk t):Sv Tryz.prog 85 [.agg ⟨tc⟩] h (RetP fun v h'=>Ext h h'/\∃ag cg aw cw,v=.tuple ⟨[.slice ag (ZBa t).1.length cg,.slice aw (ZBa t).2.length cw]⟩/\ZAN 4 ScLR h' ag (ZBa t).1/\ZBz h' aw (ZBa t).2):=by
 have ht0:=ht;obtain⟨al,cl,at',ct,a1,c1,a2,c2,a3,c3,a4,c4,a5,c5,a6,c6,rfl,-,-,-,-,-,-,-,m8⟩:=ht;have hll:=hO.loans1;refine ZAy fun hw=>?_;refine ZAH Tryz.func85 rfl (by rw[Tryz.ntmps85];rfl) ?_;show Wc Tryz.prog ⟨85,38,none⟩ _ _ _ _ _;refine zy ?_;refine ZAa rfl rfl rfl fun h1 hE1 hW1 hg1 hn1=>?_;replace ht0:=ht0.ext hE1;replace m8:=ZAN.ext (R:=ScLR) (fun x _=>x) m8 hE1;generalize h.nx=b1 at *;refine zy ?_
 refine ZAT (fun (s:Nat×Value×Value) m ds h'=>ds=[]/\s.1<=t.loans.length/\Ext h1 h'/\Own h1 h' [slI h1 s.2.1 51 4 ((lpre t s.1).1.flatMap ZAz) (lpre t s.1).1.length,slI h1 s.2.2 32 1 ((lpre t s.1).2.map i64) (lpre t s.1).2.length] ∧
   AllK m [(1,.pointer (some ⟨b1,0,none⟩)),(4,s.2.1),(5,s.2.2),(6,i64 s.1)]) (fun s=>t.loans.length-s.1) (0,.slice none 0 0,.slice none 0 0) ?_ ?_
 ·exact⟨rfl,Nat.zero_le _,Ext.refl _,((Own.nil h1 h1).nilSl 32 1).nilSl 51 4,rfl,rfl,rfl,rfl,trivial⟩
 rintro⟨k,vg,vw⟩ m ds h5 ⟨rfl,hk,hE5,hO5,hall⟩;simp only at hk hO5 hall;obtain⟨p1,p2,p3⟩:=ZHT hO hk;have k1:=hE5.get hg1;refine Wc.le ?_ (Le.kn hall);refine zy ?_;refine ZAE rfl rfl rfl rfl (ZAW rfl rfl) (fun h6=>?_) (fun h6=>?_)
 ·have hk':k<t.loans.length:=by simpa using h6
  have hls:=ZHE hk';have hxok:=hO.loans _ (List.getElem_mem hk');obtain⟨b',o,oa,rfl,row,hrow,hma⟩:=m8 k hk';generalize hmk:t.loans[k]=x at *;obtain rfl:=hma;have hrow5:=hE5.row hrow;generalize hG:(lpre t k).1=G at *;generalize hW:(lpre t k).2=W at *;obtain⟨ag,cg,rfl,hGr⟩:=ZCq (show ZAG h1 h5 vg 51 4 _ _ from hO5.at 0 rfl);refine zy ?_;refine ZAJ hmix [0,0,0,4,0,28,60,127] [0,1,2,3,4,5,6] (some 7) [([],none)] (by kernel_rfl) (by kernel_rfl) ?_;refine z_r ?_;refine z_m ?_;refine z_f ?_;refine z_l ?_;refine z_m ?_;refine z_i ?_;refine z_r ?_;refine ZAF [0,1,2,3,4,5,6] (by kernel_rfl) rfl (ZAA rfl) rfl nb rfl (ZPb rfl rfl rfl rfl rfl Bod.h (ZQ6 (ht0.ext hE5) hGr hO p1 (by omega) hxok rfl) (fun h8 h9 hE9=>?_) (fun h8 h9 hE9=>?_))
  ·refine ZAM (ZAA rfl) nb' ?_
   rw[if_neg (by cases hq:ZD4 t G x <;> rw[hq] at h8 <;> simp_all)] at hls
   have hwl:(W++[(210:Int)]).length=W.length+1:=by simp
   have hwm:(W++[(210:Int)]).map i64=W.map i64++[i64 210]:=by simp
   replace hE5:=hE5.trans hE9;replace hO5:=hO5.ext hE9;refine zy ?_;refine ZC8 rfl rfl Und.h Tsz.h Zr.h rfl rfl rfl rfl rfl fun h12 hE12 hW12 hg12 hn12=>?_;refine ZBV (k:=1) (l:=[i64 210]) hW1 (hE5.trans hE12) rfl rfl rfl rfl rfl Und.h inferInstance rfl rfl (hO5.ext hE12).up2 (ZBC Und.h (by intro k;simp) (ZAd hg12 rfl)) rfl rfl (by omega) (by omega) fun v13 h13 hW13 hO13 hE13=>?_;rw[<-hwl,<-hwm] at hO13;refine zy ?_;refine⟨(k+1,.slice ag G.length cg,v13),?_,rfl,hk',hE13,?_,rfl,rfl,rfl,rfl,trivial⟩
   ·show t.loans.length-(k+1)<t.loans.length-k;omega
   ·simp only[hls];exact hO13.up2
  ·refine ZAM (ZAA rfl) nb' ?_
   rw[if_pos (by cases hq:ZD4 t G x <;> rw[hq] at h8 <;> simp_all)] at hls
   have hgl:(G++[x]).length=G.length+1:=by simp
   have hgm:(G++[x]).flatMap ZAz=G.flatMap ZAz++ZAz x:=by simp[List.flatMap_append]
   have hwl:(W++[(0:Int)]).length=W.length+1:=by simp
   have hwm:(W++[(0:Int)]).map i64=W.map i64++[i64 0]:=by simp
   replace hE5:=hE5.trans hE9;replace hO5:=hO5.ext hE9;replace hrow5:=hE9.row hrow5;replace k1:=hE9.get k1;refine zy ?_;refine ZAI rfl rfl rfl rfl (A_ix Und.h Tsz.h rfl rfl) ?_;refine zy ?_;refine ZC8 rfl rfl Und.h Tsz.h Zr.h rfl rfl rfl rfl rfl fun h12 hE12 hW12 hg12 hn12=>?_;refine ZBV (k:=1) (l:=ZAz x) hW1 (hE5.trans hE12) rfl rfl rfl rfl rfl Und.h inferInstance rfl rfl (hO5.ext hE12) (ZBC Und.h (by intro k;simp) (ZAd hg12 rfl)) rfl rfl (by omega) (by omega) fun v13 h13 hW13 hO13 hE13=>?_;rw[<-hgl,<-hgm] at hO13;refine zy ?_;refine ZC8 rfl rfl Und.h Tsz.h Zr.h rfl rfl rfl rfl rfl fun h14 hE14 hW14 hg14 hn14=>?_
   refine ZBV (k:=1) (l:=[i64 0]) hW1 (hE13.trans hE14) rfl rfl rfl rfl rfl Und.h inferInstance rfl rfl (hO13.ext hE14).up2 (ZBC Und.h (by intro k;simp) (ZAd hg14 rfl)) rfl rfl (by omega) (by omega) fun v15 h15 hW15 hO15 hE15=>?_;rw[<-hwl,<-hwm] at hO15;refine zy ?_;refine⟨(k+1,v13,v15),?_,rfl,hk',hE15,?_,rfl,rfl,rfl,rfl,trivial⟩
   ·show t.loans.length-(k+1)<t.loans.length-k;omega
   ·simp only[hls];exact hO15.up2
 have hk2:k=t.loans.length:=by omega
 subst hk2;rw[ZGb] at hO5;obtain⟨ag,cg,rfl,hGr⟩:=ZCq (show ZAG h1 h5 vg 51 4 _ _ from hO5.at 0 rfl);obtain⟨aw,rfl,-,hWr⟩:=ZAG.list (enc:=i64) (show ZAG h1 h5 vw 32 1 _ _ from hO5.at 1 rfl);refine zy ?_;exact ZAC (ZAD rfl ⟨hE1.trans hE5,ag,cg,aw,_,rfl,hGr,hWr⟩)
theorem ZEu {tc:List Value}{t:ScT}{h:Heap}(ht:ZBX h tc t)(hT:t.Fit):Sv Tryz.prog 84 [.agg ⟨tc⟩] h (RetP fun v h'=>v=i64 (ZCU t)/\Ext h h'):=by
 have ht0:=ht;obtain⟨al,cl,at',ct,a1,c1,a2,c2,a3,c3,a4,c4,a5,c5,a6,c6,rfl,-⟩:=ht;refine ZAy fun hw=>?_;refine ZAH Tryz.func84 rfl (by rw[Tryz.ntmps84];rfl) ?_;show Wc Tryz.prog ⟨84,13,none⟩ _ _ _ _ _;refine zy ?_;refine ZAa rfl rfl rfl fun h1 hE1 hW1 hg1 hn1=>?_;generalize h.nx=b1 at *;refine zy ?_;refine ZAS rfl rfl rfl rfl rfl Bod.h rfl rfl (ZI3 (ht0.ext hE1) hT) fun h2 hE2=>?_;refine zy ?_;exact ZAC (ZAD rfl ⟨rfl,hE1.trans hE2⟩)
end Go.Dw
