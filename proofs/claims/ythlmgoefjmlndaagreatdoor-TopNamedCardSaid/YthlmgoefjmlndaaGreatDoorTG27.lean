/- P1 (from chapter 11): contracts of screen.named and screen.each, for each type. -/
import Derived.Test.YthlmgoefjmlndaaGreatDoorTG2
import Derived.Test.YthlmgoefjmlndaaGreatDoorTG26
import Derived.Test.YthlmgoefjmlndaaGreatDoorTG4
import Derived.Test.YthlmgoefjmlndaaGreatDoorTG12
import Derived.Test.YthlmgoefjmlndaaGreatDoorTG8
import Derived.Test.YthlmgoefjmlndaaGreatDoorTG25
import Derived.Test.YthlmgoefjmlndaaGreatDoorTG6
set_option linter.unusedVariables false
set_option linter.unusedSimpArgs false
namespace Go.Dw
open Go Go.Dx Go.Proofs
set_option maxRecDepth 100000
set_option maxHeartbeats 8000000
structure NmI (h0 h:Heap)(bm:Nat)(ZAe:List (List UInt8)):Prop where
 ext:Ext h0 h
 mp:∃l,ZDe strK h bm l/\∀s,lkp s l=if s∈ZAe then some (.bool true) else none
 lt:h0.nx<=bm
theorem NmI.grow {h0 h h':Heap}{bm:Nat}{ZAe:List (List UInt8)}(c:NmI h0 h bm ZAe)(he:Ext h h'):NmI h0 h' bm ZAe:=by
 obtain⟨l,m1,m2⟩:=c.mp;exact⟨c.ext.trans he,⟨l,m1.ext _ he,m2⟩,c.lt⟩
theorem NmI.upd {h0 h h':Heap}{bm x:Nat}{ZAe:List (List UInt8)}{o:AO}(c:NmI h0 h bm ZAe)(u:Upd h x o h')(hw:WF h0)(hx:h0.nx<=x)(h2:bm≠x):NmI h0 h' bm ZAe:=by
 obtain⟨l,m1,m2⟩:=c.mp;exact⟨u.ext c.ext hw hx,⟨l,m1.get _ (u.other _ h2),m2⟩,c.lt⟩
theorem ZOE {ZAe:List (List UInt8)}{l:List (List UInt8×Value)}{s:List UInt8}(h:∀x,lkp x l=if x∈ZAe then some (.bool true) else none)(x:List UInt8):lkp x (setK s (.bool true) l)=if x∈ZAe++[s] then some (.bool true) else none:=by
 rw[ZB0,h x]
 by_cases hx:x=s
 ·simp[hx]
 ·simp[hx]
def oI:Option (Nat×Int)->Int
 | none=>0
 | some (i,_)=>(i:Nat)
def oE:Option (Nat×Int)->Int
 | none=>0
 | some (_,e)=>e
def tupO (o:Option (Nat×Int)):Value:=.tuple ⟨[i64 (oI o),i64 (oE o)]⟩
theorem ZJP {α:Type}{nm:α->List UInt8}{wrong:α->Int}:∀{l:List α}{i:Nat}{b:List (List UInt8)}{j:Nat}{e:Int},goNm nm wrong i b l=some (j,e)->e≠0:=by
 intro l
 induction l with
 | nil=>intro i b j e h;cases h
 | cons x l ih =>
  intro i b j e h;unfold goNm at h
  split at h
  ·rename_i h1;cases h;exact h1
  ·split at h
   ·rename_i h2;cases h;exact h2
   ·exact ih h
theorem ZNA {α:Type}{wrong:α->Int}:∀{l:List α}{i:Nat}{j:Nat}{e:Int},goEa wrong i l=some (j,e)->e≠0:=by
 intro l
 induction l with
 | nil=>intro i j e h;cases h
 | cons x l ih =>
  intro i j e h;unfold goEa at h
  split at h
  ·rename_i h1;cases h;exact h1
  ·exact ih h
theorem ZHQ {p:Int}{o:Option (Nat×Int)}{x:Int×Int×Int}(h:¬oE o=0):orE p o x=(p,oI o,oE o):=by
 cases o with
 | none=>exact absurd rfl h
 | some y=>rfl
theorem ZII {p:Int}{o:Option (Nat×Int)}{x:Int×Int×Int}(hn:∀{j:Nat}{e:Int},o=some (j,e)->e≠0)(h:oE o=0):orE p o x=x:=by
 cases o with
 | none=>rfl
 | some y=>exact absurd h (hn (e:=y.2) rfl)
theorem ZQ5 {a:Option Addr}{cap:Nat}{l:List (List UInt8)}{wrong:(List UInt8)->Int}{h:Heap}{g1 g2:FuncId}{f2:List Value}(hI:ZIr h a l)(hlen:Len l)(hN:∀x∈l,Len (x))(hb1:ZAa Tryz.prog g1=true)(hb2:ZAa Tryz.prog g2=true)
  (hp1:(∀h1,Ext h h1->∀x,x∈l->Sv Tryz.prog g1 ([]++([str x]++[])) h1 (RetP fun v h'=>v=str (x)/\Ext h1 h')))
  (hp2:(∀h1,Ext h h1->∀x,x∈l->Sv Tryz.prog g2 (f2++([str x]++[])) h1 (RetP fun v h'=>v=i64 (wrong x)/\Ext h1 h'))) :
  Sv Tryz.prog 191 [.slice a l.length cap,.func (.func g1) ⟨[]⟩ ⟨[]⟩,.func (.func g2) ⟨f2⟩ ⟨[]⟩] h (RetP fun v h'=>v=tupO (goNm id wrong 0 [] l)/\Ext h h'):=by
 refine ZA5 fun hw=>?_;refine ZAF Tryz.func191 rfl (by rw[Tryz.ntmps191];rfl) ?_;show Wc Tryz.prog ⟨191,44,none⟩ _ _ _ _ _;refine zy ?_;refine ZCL rfl rfl fun h6 hE6 hW6 hg6 hn6=>?_;have hI0:NmI h h6 h.nx []:=⟨hE6,⟨[],ZDe.new _ hg6,fun _=>rfl⟩,Nat.le_refl _⟩;generalize hbm:h.nx=bm at *;refine zy ?_
 refine ZAO (fun (k:Nat) m ds h'=>ds=[]/\k<=l.length/\NmI h h' bm ((l.take k).map id)/\goNm id wrong 0 [] l=goNm id wrong k ((l.take k).map id) (l.drop k) ∧
   AllK m [(1,.func (.func g1) ⟨[]⟩ ⟨[]⟩),(2,.func (.func g2) ⟨f2⟩ ⟨[]⟩),(8,.map (some bm)),(14,.slice a l.length cap),(15,i64 l.length),(16,i64 k)]) (fun k=>l.length-k) 0 ?_ ?_
 ·exact⟨rfl,Nat.zero_le _,hI0,rfl,rfl,rfl,rfl,rfl,rfl,rfl,trivial⟩
 clear hI0 hg6 hE6 hW6 hn6;clear h6;rintro k m ds h1 ⟨rfl,hk,hC,hgo,hall⟩;refine ZDF fun hw1=>?_;refine Wc.le ?_ (Le.kn hall);refine zy ?_;refine zC (ZAf rfl rfl) (fun h6=>?_) (fun h6=>?_)
 ·have hk':k<l.length:=by simpa using h6
  have hdr:l.drop k=l[k]::l.drop (k+1):=List.drop_eq_getElem_cons hk';have htk:l.take (k+1)=l.take k++[l[k]]:=by rw[List.take_add_one,List.getElem?_eq_getElem hk'];rfl
  rw[hdr,goNm] at hgo;have hxm:=List.getElem_mem hk';obtain⟨b,o,oa,rfl,hc⟩:=hI k hk';have hxN:=hN _ hxm;generalize hmk:l[k]=x at *;replace hc:=hC.ext.cell hc;refine zy ?_;refine zD (A_ix Und.h Tsz.h rfl rfl) ?_;refine ZA2 rfl rfl rfl rfl rfl hb1 rfl rfl (hp1 h1 hC.ext _ hxm) fun h4 hE4=>?_;have hC3:=hC.grow hE4;refine zy ?_;refine ZAh rfl rfl rfl rfl rfl Bod.h rfl rfl (ZAp _ _ hxN) (fun h8 h9 hE9=>?_) (fun h8 h9 hE9=>?_);rotate_left
  ·refine zy ?_
   refine ZAB (ZAC rfl ⟨?_,(hC3.grow hE9).ext⟩);rw[ZBG] at h8;have hne:ZAc (x) ((l.take k).map id)=6:=by simp[ZAc,h8]
   rw[show ZAc (id x) ((l.take k).map id)=6 from hne,if_pos (by decide)] at hgo;rw[hgo];rfl
  rw[ZBG] at h8;replace hC3:=hC3.grow hE9;obtain⟨l',mp1,mp2⟩:=hC3.mp;refine zy ?_;refine zE (ZFk strK Und.h Zr.h rfl mp1 (k:=x) rfl) ?_;rw[mp2]
  by_cases hin:x∈(l.take k).map id
  ·rw[if_pos hin]
   refine zy ?_;refine ZAB (ZAC rfl ⟨?_,hC3.ext⟩);have hne:ZAc (x) ((l.take k).map id)=5:=by rw[ZAc,if_neg (by rw[h8];simp),if_pos hin]
   rw[show ZAc (id x) ((l.take k).map id)=5 from hne,if_pos (by decide)] at hgo;rw[hgo];rfl
  rw[if_neg hin];have hne:ZAc (x) ((l.take k).map id)=0:=by rw[ZAc,if_neg (by rw[h8];simp),if_neg hin]
  rw[show ZAc (id x) ((l.take k).map id)=0 from hne,if_neg (by decide)] at hgo;refine zy ?_;refine ZA2 rfl rfl rfl rfl rfl hb2 rfl rfl (hp2 _ hC3.ext _ hxm) fun h12 hE12=>?_;refine zy ?_;refine zC (ZAo rfl rfl) (fun h10=>?_) (fun h10=>?_)
  ·refine zy ?_
   refine ZAB (ZAC rfl ⟨?_,(hC3.grow hE12).ext⟩);rw[if_pos h10] at hgo;rw[hgo];rfl
  rw[if_neg h10] at hgo;replace hC3:=hC3.grow hE12;obtain⟨l',mp1,mp2⟩:=hC3.mp;refine zy ?_;refine ZC6 strK rfl Und.h rfl mp1 (k:=x) rfl rfl fun h13 o13 hU13 hM13=>?_;refine zy ?_;refine⟨k+1,?_,rfl,hk',?_,?_,rfl,rfl,rfl,rfl,rfl,rfl,trivial⟩
  ·show l.length-(k+1)<l.length-k;omega
  ·rw[htk,List.map_append]
   refine⟨hU13.ext hC3.ext hw hC3.lt,⟨_,hM13,?_⟩,hC3.lt⟩;exact fun x=>ZOE mp2 x
  ·rw[htk,List.map_append];exact hgo
 have hgN:goNm id wrong 0 [] l=none:=by
  have hk2:k=l.length:=by omega
  rw[hgo,hk2,List.drop_length];rfl
 refine zy ?_;exact ZAB (ZAC rfl ⟨by rw[hgN];rfl,hC.ext⟩)
theorem ZQZ {a:Option Addr}{cap:Nat}{l:List ScV}{wrong:ScV->Int}{h:Heap}{g1 g2:FuncId}{f2:List Value}(hI:ZAM 9 ScVR h a l)(hlen:Len l)(hN:∀x∈l,Len (ScV.name x))(hb1:ZAa Tryz.prog g1=true)(hb2:ZAa Tryz.prog g2=true)
  (hp1:(∀h1,Ext h h1->∀row x,x∈l->ScVR h1 row x->Sv Tryz.prog g1 ([]++([.agg ⟨row⟩]++[])) h1 (RetP fun v h'=>v=str (ScV.name x)/\Ext h1 h')))
  (hp2:(∀h1,Ext h h1->∀row x,x∈l->ScVR h1 row x->Sv Tryz.prog g2 (f2++([.agg ⟨row⟩]++[])) h1 (RetP fun v h'=>v=i64 (wrong x)/\Ext h1 h'))) :
  Sv Tryz.prog 195 [.slice a l.length cap,.func (.func g1) ⟨[]⟩ ⟨[]⟩,.func (.func g2) ⟨f2⟩ ⟨[]⟩] h (RetP fun v h'=>v=tupO (goNm ScV.name wrong 0 [] l)/\Ext h h'):=by
 refine ZA5 fun hw=>?_;refine ZAF Tryz.func195 rfl (by rw[Tryz.ntmps195];rfl) ?_;show Wc Tryz.prog ⟨195,44,none⟩ _ _ _ _ _;refine zy ?_;refine ZCL rfl rfl fun h6 hE6 hW6 hg6 hn6=>?_;have hI0:NmI h h6 h.nx []:=⟨hE6,⟨[],ZDe.new _ hg6,fun _=>rfl⟩,Nat.le_refl _⟩;generalize hbm:h.nx=bm at *;refine zy ?_
 refine ZAO (fun (k:Nat) m ds h'=>ds=[]/\k<=l.length/\NmI h h' bm ((l.take k).map ScV.name)/\goNm ScV.name wrong 0 [] l=goNm ScV.name wrong k ((l.take k).map ScV.name) (l.drop k) ∧
   AllK m [(1,.func (.func g1) ⟨[]⟩ ⟨[]⟩),(2,.func (.func g2) ⟨f2⟩ ⟨[]⟩),(8,.map (some bm)),(14,.slice a l.length cap),(15,i64 l.length),(16,i64 k)]) (fun k=>l.length-k) 0 ?_ ?_
 ·exact⟨rfl,Nat.zero_le _,hI0,rfl,rfl,rfl,rfl,rfl,rfl,rfl,trivial⟩
 clear hI0 hg6 hE6 hW6 hn6;clear h6;rintro k m ds h1 ⟨rfl,hk,hC,hgo,hall⟩;refine ZDF fun hw1=>?_;refine Wc.le ?_ (Le.kn hall);refine zy ?_;refine zC (ZAf rfl rfl) (fun h6=>?_) (fun h6=>?_)
 ·have hk':k<l.length:=by simpa using h6
  have hdr:l.drop k=l[k]::l.drop (k+1):=List.drop_eq_getElem_cons hk';have htk:l.take (k+1)=l.take k++[l[k]]:=by rw[List.take_add_one,List.getElem?_eq_getElem hk'];rfl
  rw[hdr,goNm] at hgo;have hxm:=List.getElem_mem hk';obtain⟨b,o,oa,rfl,row,hrow,hma⟩:=hI k hk';have hxN:=hN _ hxm;generalize hmk:l[k]=x at *;have hma0:=hma;obtain rfl:=hma;have hrow1:=hC.ext.row hrow;refine zy ?_;refine zD (A_ix Und.h Tsz.h rfl rfl) ?_;refine ZBV rfl rfl Zr.h fun h2 hE2 hW2 hg2 hn2=>?_;refine zy ?_;refine ZAq rfl Tsz.h rfl rfl hg2 rfl rfl rfl fun h3 hU3=>?_;have hbmn:bm≠h1.nx:=by
   obtain⟨l,⟨es,c,e1,_⟩,_⟩:=hC.mp;have:=hw1 _ _ e1;omega
  have hC3:=(hC.grow hE2).upd hU3 hw hC.ext.2.1 hbmn;have hg7:=hU3.at';generalize h1.nx=b7 at *;clear hU3;refine zy ?_;refine ZA2 rfl rfl rfl rfl rfl hb1 rfl rfl (hp1 h3 hC3.ext _ _ hxm (rfl)) fun h4 hE4=>?_;replace hC3:=hC3.grow hE4;replace hg7:=hE4.get hg7;refine zy ?_;refine ZAh rfl rfl rfl rfl rfl Bod.h rfl rfl (ZAp _ _ hxN) (fun h8 h9 hE9=>?_) (fun h8 h9 hE9=>?_);rotate_left
  ·refine zy ?_
   refine ZAB (ZAC rfl ⟨?_,(hC3.grow hE9).ext⟩);rw[ZBG] at h8;have hne:ZAc (ScV.name x) ((l.take k).map ScV.name)=6:=by simp[ZAc,h8]
   rw[show ZAc (ScV.name x) ((l.take k).map ScV.name)=6 from hne,if_pos (by decide)] at hgo;rw[hgo];rfl
  rw[ZBG] at h8;replace hC3:=hC3.grow hE9;replace hg7:=hE9.get hg7;obtain⟨l',mp1,mp2⟩:=hC3.mp;refine zy ?_;refine zE (ZFk strK Und.h Zr.h rfl mp1 (k:=ScV.name x) rfl) ?_;rw[mp2]
  by_cases hin:ScV.name x∈(l.take k).map ScV.name
  ·rw[if_pos hin]
   refine zy ?_;refine ZAB (ZAC rfl ⟨?_,hC3.ext⟩);have hne:ZAc (ScV.name x) ((l.take k).map ScV.name)=5:=by rw[ZAc,if_neg (by rw[h8];simp),if_pos hin]
   rw[show ZAc (ScV.name x) ((l.take k).map ScV.name)=5 from hne,if_pos (by decide)] at hgo;rw[hgo];rfl
  rw[if_neg hin];have hne:ZAc (ScV.name x) ((l.take k).map ScV.name)=0:=by rw[ZAc,if_neg (by rw[h8];simp),if_neg hin]
  rw[show ZAc (ScV.name x) ((l.take k).map ScV.name)=0 from hne,if_neg (by decide)] at hgo;refine zy ?_;refine ZA2 rfl rfl rfl rfl rfl hb2 rfl rfl (hp2 _ hC3.ext _ _ hxm (rfl)) fun h12 hE12=>?_;refine zy ?_;refine zC (ZAo rfl rfl) (fun h10=>?_) (fun h10=>?_)
  ·refine zy ?_
   refine ZAB (ZAC rfl ⟨?_,(hC3.grow hE12).ext⟩);rw[if_pos h10] at hgo;rw[hgo];rfl
  rw[if_neg h10] at hgo;replace hC3:=hC3.grow hE12;obtain⟨l',mp1,mp2⟩:=hC3.mp;refine zy ?_;refine ZC6 strK rfl Und.h rfl mp1 (k:=ScV.name x) rfl rfl fun h13 o13 hU13 hM13=>?_;refine zy ?_;refine⟨k+1,?_,rfl,hk',?_,?_,rfl,rfl,rfl,rfl,rfl,rfl,trivial⟩
  ·show l.length-(k+1)<l.length-k;omega
  ·rw[htk,List.map_append]
   refine⟨hU13.ext hC3.ext hw hC3.lt,⟨_,hM13,?_⟩,hC3.lt⟩;exact fun x=>ZOE mp2 x
  ·rw[htk,List.map_append];exact hgo
 have hgN:goNm ScV.name wrong 0 [] l=none:=by
  have hk2:k=l.length:=by omega
  rw[hgo,hk2,List.drop_length];rfl
 refine zy ?_;exact ZAB (ZAC rfl ⟨by rw[hgN];rfl,hC.ext⟩)
theorem ZQ2 {a:Option Addr}{cap:Nat}{l:List ScP}{wrong:ScP->Int}{h:Heap}{g1 g2:FuncId}{f2:List Value}(hI:ZAM 7 ScPR h a l)(hlen:Len l)(hN:∀x∈l,Len (ScP.name x))(hb1:ZAa Tryz.prog g1=true)(hb2:ZAa Tryz.prog g2=true)
  (hp1:(∀h1,Ext h h1->∀row x,x∈l->ScPR h1 row x->Sv Tryz.prog g1 ([]++([.agg ⟨row⟩]++[])) h1 (RetP fun v h'=>v=str (ScP.name x)/\Ext h1 h')))
  (hp2:(∀h1,Ext h h1->∀row x,x∈l->ScPR h1 row x->Sv Tryz.prog g2 (f2++([.agg ⟨row⟩]++[])) h1 (RetP fun v h'=>v=i64 (wrong x)/\Ext h1 h'))) :
  Sv Tryz.prog 200 [.slice a l.length cap,.func (.func g1) ⟨[]⟩ ⟨[]⟩,.func (.func g2) ⟨f2⟩ ⟨[]⟩] h (RetP fun v h'=>v=tupO (goNm ScP.name wrong 0 [] l)/\Ext h h'):=by
 refine ZA5 fun hw=>?_;refine ZAF Tryz.func200 rfl (by rw[Tryz.ntmps200];rfl) ?_;show Wc Tryz.prog ⟨200,44,none⟩ _ _ _ _ _;refine zy ?_;refine ZCL rfl rfl fun h6 hE6 hW6 hg6 hn6=>?_;have hI0:NmI h h6 h.nx []:=⟨hE6,⟨[],ZDe.new _ hg6,fun _=>rfl⟩,Nat.le_refl _⟩;generalize hbm:h.nx=bm at *;refine zy ?_
 refine ZAO (fun (k:Nat) m ds h'=>ds=[]/\k<=l.length/\NmI h h' bm ((l.take k).map ScP.name)/\goNm ScP.name wrong 0 [] l=goNm ScP.name wrong k ((l.take k).map ScP.name) (l.drop k) ∧
   AllK m [(1,.func (.func g1) ⟨[]⟩ ⟨[]⟩),(2,.func (.func g2) ⟨f2⟩ ⟨[]⟩),(8,.map (some bm)),(14,.slice a l.length cap),(15,i64 l.length),(16,i64 k)]) (fun k=>l.length-k) 0 ?_ ?_
 ·exact⟨rfl,Nat.zero_le _,hI0,rfl,rfl,rfl,rfl,rfl,rfl,rfl,trivial⟩
 clear hI0 hg6 hE6 hW6 hn6;clear h6;rintro k m ds h1 ⟨rfl,hk,hC,hgo,hall⟩;refine ZDF fun hw1=>?_;refine Wc.le ?_ (Le.kn hall);refine zy ?_;refine zC (ZAf rfl rfl) (fun h6=>?_) (fun h6=>?_)
 ·have hk':k<l.length:=by simpa using h6
  have hdr:l.drop k=l[k]::l.drop (k+1):=List.drop_eq_getElem_cons hk';have htk:l.take (k+1)=l.take k++[l[k]]:=by rw[List.take_add_one,List.getElem?_eq_getElem hk'];rfl
  rw[hdr,goNm] at hgo;have hxm:=List.getElem_mem hk';obtain⟨b,o,oa,rfl,row,hrow,hma⟩:=hI k hk';have hxN:=hN _ hxm;generalize hmk:l[k]=x at *;have hma0:=hma;obtain⟨ap,cp,rfl,hpl⟩:=hma;have hrow1:=hC.ext.row hrow;refine zy ?_;refine zD (A_ix Und.h Tsz.h rfl rfl) ?_;refine ZBV rfl rfl Zr.h fun h2 hE2 hW2 hg2 hn2=>?_;refine zy ?_;refine ZAq rfl Tsz.h rfl rfl hg2 rfl rfl rfl fun h3 hU3=>?_;have hbmn:bm≠h1.nx:=by
   obtain⟨l,⟨es,c,e1,_⟩,_⟩:=hC.mp;have:=hw1 _ _ e1;omega
  have hC3:=(hC.grow hE2).upd hU3 hw hC.ext.2.1 hbmn;have hg7:=hU3.at';generalize h1.nx=b7 at *;clear hU3;refine zy ?_;refine ZA2 rfl rfl rfl rfl rfl hb1 rfl rfl (hp1 h3 hC3.ext _ _ hxm (hma0.ext hC3.ext)) fun h4 hE4=>?_;replace hC3:=hC3.grow hE4;replace hg7:=hE4.get hg7;refine zy ?_;refine ZAh rfl rfl rfl rfl rfl Bod.h rfl rfl (ZAp _ _ hxN) (fun h8 h9 hE9=>?_) (fun h8 h9 hE9=>?_);rotate_left
  ·refine zy ?_
   refine ZAB (ZAC rfl ⟨?_,(hC3.grow hE9).ext⟩);rw[ZBG] at h8;have hne:ZAc (ScP.name x) ((l.take k).map ScP.name)=6:=by simp[ZAc,h8]
   rw[show ZAc (ScP.name x) ((l.take k).map ScP.name)=6 from hne,if_pos (by decide)] at hgo;rw[hgo];rfl
  rw[ZBG] at h8;replace hC3:=hC3.grow hE9;replace hg7:=hE9.get hg7;obtain⟨l',mp1,mp2⟩:=hC3.mp;refine zy ?_;refine zE (ZFk strK Und.h Zr.h rfl mp1 (k:=ScP.name x) rfl) ?_;rw[mp2]
  by_cases hin:ScP.name x∈(l.take k).map ScP.name
  ·rw[if_pos hin]
   refine zy ?_;refine ZAB (ZAC rfl ⟨?_,hC3.ext⟩);have hne:ZAc (ScP.name x) ((l.take k).map ScP.name)=5:=by rw[ZAc,if_neg (by rw[h8];simp),if_pos hin]
   rw[show ZAc (ScP.name x) ((l.take k).map ScP.name)=5 from hne,if_pos (by decide)] at hgo;rw[hgo];rfl
  rw[if_neg hin];have hne:ZAc (ScP.name x) ((l.take k).map ScP.name)=0:=by rw[ZAc,if_neg (by rw[h8];simp),if_neg hin]
  rw[show ZAc (ScP.name x) ((l.take k).map ScP.name)=0 from hne,if_neg (by decide)] at hgo;refine zy ?_;refine ZA2 rfl rfl rfl rfl rfl hb2 rfl rfl (hp2 _ hC3.ext _ _ hxm (hma0.ext hC3.ext)) fun h12 hE12=>?_;refine zy ?_;refine zC (ZAo rfl rfl) (fun h10=>?_) (fun h10=>?_)
  ·refine zy ?_
   refine ZAB (ZAC rfl ⟨?_,(hC3.grow hE12).ext⟩);rw[if_pos h10] at hgo;rw[hgo];rfl
  rw[if_neg h10] at hgo;replace hC3:=hC3.grow hE12;obtain⟨l',mp1,mp2⟩:=hC3.mp;refine zy ?_;refine ZC6 strK rfl Und.h rfl mp1 (k:=ScP.name x) rfl rfl fun h13 o13 hU13 hM13=>?_;refine zy ?_;refine⟨k+1,?_,rfl,hk',?_,?_,rfl,rfl,rfl,rfl,rfl,rfl,trivial⟩
  ·show l.length-(k+1)<l.length-k;omega
  ·rw[htk,List.map_append]
   refine⟨hU13.ext hC3.ext hw hC3.lt,⟨_,hM13,?_⟩,hC3.lt⟩;exact fun x=>ZOE mp2 x
  ·rw[htk,List.map_append];exact hgo
 have hgN:goNm ScP.name wrong 0 [] l=none:=by
  have hk2:k=l.length:=by omega
  rw[hgo,hk2,List.drop_length];rfl
 refine zy ?_;exact ZAB (ZAC rfl ⟨by rw[hgN];rfl,hC.ext⟩)
theorem ZQ0 {a:Option Addr}{cap:Nat}{l:List ScPk}{wrong:ScPk->Int}{h:Heap}{g1 g2:FuncId}{f2:List Value}(hI:ZAM 5 ZDC h a l)(hlen:Len l)(hN:∀x∈l,Len (ScPk.name x))(hb1:ZAa Tryz.prog g1=true)(hb2:ZAa Tryz.prog g2=true)
  (hp1:(∀h1,Ext h h1->∀row x,x∈l->ZDC h1 row x->Sv Tryz.prog g1 ([]++([.agg ⟨row⟩]++[])) h1 (RetP fun v h'=>v=str (ScPk.name x)/\Ext h1 h')))
  (hp2:(∀h1,Ext h h1->∀row x,x∈l->ZDC h1 row x->Sv Tryz.prog g2 (f2++([.agg ⟨row⟩]++[])) h1 (RetP fun v h'=>v=i64 (wrong x)/\Ext h1 h'))) :
  Sv Tryz.prog 203 [.slice a l.length cap,.func (.func g1) ⟨[]⟩ ⟨[]⟩,.func (.func g2) ⟨f2⟩ ⟨[]⟩] h (RetP fun v h'=>v=tupO (goNm ScPk.name wrong 0 [] l)/\Ext h h'):=by
 refine ZA5 fun hw=>?_;refine ZAF Tryz.func203 rfl (by rw[Tryz.ntmps203];rfl) ?_;show Wc Tryz.prog ⟨203,44,none⟩ _ _ _ _ _;refine zy ?_;refine ZCL rfl rfl fun h6 hE6 hW6 hg6 hn6=>?_;have hI0:NmI h h6 h.nx []:=⟨hE6,⟨[],ZDe.new _ hg6,fun _=>rfl⟩,Nat.le_refl _⟩;generalize hbm:h.nx=bm at *;refine zy ?_
 refine ZAO (fun (k:Nat) m ds h'=>ds=[]/\k<=l.length/\NmI h h' bm ((l.take k).map ScPk.name)/\goNm ScPk.name wrong 0 [] l=goNm ScPk.name wrong k ((l.take k).map ScPk.name) (l.drop k) ∧
   AllK m [(1,.func (.func g1) ⟨[]⟩ ⟨[]⟩),(2,.func (.func g2) ⟨f2⟩ ⟨[]⟩),(8,.map (some bm)),(14,.slice a l.length cap),(15,i64 l.length),(16,i64 k)]) (fun k=>l.length-k) 0 ?_ ?_
 ·exact⟨rfl,Nat.zero_le _,hI0,rfl,rfl,rfl,rfl,rfl,rfl,rfl,trivial⟩
 clear hI0 hg6 hE6 hW6 hn6;clear h6;rintro k m ds h1 ⟨rfl,hk,hC,hgo,hall⟩;refine ZDF fun hw1=>?_;refine Wc.le ?_ (Le.kn hall);refine zy ?_;refine zC (ZAf rfl rfl) (fun h6=>?_) (fun h6=>?_)
 ·have hk':k<l.length:=by simpa using h6
  have hdr:l.drop k=l[k]::l.drop (k+1):=List.drop_eq_getElem_cons hk';have htk:l.take (k+1)=l.take k++[l[k]]:=by rw[List.take_add_one,List.getElem?_eq_getElem hk'];rfl
  rw[hdr,goNm] at hgo;have hxm:=List.getElem_mem hk';obtain⟨b,o,oa,rfl,row,hrow,hma⟩:=hI k hk';have hxN:=hN _ hxm;generalize hmk:l[k]=x at *;have hma0:=hma;obtain rfl:=hma;have hrow1:=hC.ext.row hrow;refine zy ?_;refine zD (A_ix Und.h Tsz.h rfl rfl) ?_;refine ZBV rfl rfl Zr.h fun h2 hE2 hW2 hg2 hn2=>?_;refine zy ?_;refine ZAq rfl Tsz.h rfl rfl hg2 rfl rfl rfl fun h3 hU3=>?_;have hbmn:bm≠h1.nx:=by
   obtain⟨l,⟨es,c,e1,_⟩,_⟩:=hC.mp;have:=hw1 _ _ e1;omega
  have hC3:=(hC.grow hE2).upd hU3 hw hC.ext.2.1 hbmn;have hg7:=hU3.at';generalize h1.nx=b7 at *;clear hU3;refine zy ?_;refine ZA2 rfl rfl rfl rfl rfl hb1 rfl rfl (hp1 h3 hC3.ext _ _ hxm (rfl)) fun h4 hE4=>?_;replace hC3:=hC3.grow hE4;replace hg7:=hE4.get hg7;refine zy ?_;refine ZAh rfl rfl rfl rfl rfl Bod.h rfl rfl (ZAp _ _ hxN) (fun h8 h9 hE9=>?_) (fun h8 h9 hE9=>?_);rotate_left
  ·refine zy ?_
   refine ZAB (ZAC rfl ⟨?_,(hC3.grow hE9).ext⟩);rw[ZBG] at h8;have hne:ZAc (ScPk.name x) ((l.take k).map ScPk.name)=6:=by simp[ZAc,h8]
   rw[show ZAc (ScPk.name x) ((l.take k).map ScPk.name)=6 from hne,if_pos (by decide)] at hgo;rw[hgo];rfl
  rw[ZBG] at h8;replace hC3:=hC3.grow hE9;replace hg7:=hE9.get hg7;obtain⟨l',mp1,mp2⟩:=hC3.mp;refine zy ?_;refine zE (ZFk strK Und.h Zr.h rfl mp1 (k:=ScPk.name x) rfl) ?_;rw[mp2]
  by_cases hin:ScPk.name x∈(l.take k).map ScPk.name
  ·rw[if_pos hin]
   refine zy ?_;refine ZAB (ZAC rfl ⟨?_,hC3.ext⟩);have hne:ZAc (ScPk.name x) ((l.take k).map ScPk.name)=5:=by rw[ZAc,if_neg (by rw[h8];simp),if_pos hin]
   rw[show ZAc (ScPk.name x) ((l.take k).map ScPk.name)=5 from hne,if_pos (by decide)] at hgo;rw[hgo];rfl
  rw[if_neg hin];have hne:ZAc (ScPk.name x) ((l.take k).map ScPk.name)=0:=by rw[ZAc,if_neg (by rw[h8];simp),if_neg hin]
  rw[show ZAc (ScPk.name x) ((l.take k).map ScPk.name)=0 from hne,if_neg (by decide)] at hgo;refine zy ?_;refine ZA2 rfl rfl rfl rfl rfl hb2 rfl rfl (hp2 _ hC3.ext _ _ hxm (rfl)) fun h12 hE12=>?_;refine zy ?_;refine zC (ZAo rfl rfl) (fun h10=>?_) (fun h10=>?_)
  ·refine zy ?_
   refine ZAB (ZAC rfl ⟨?_,(hC3.grow hE12).ext⟩);rw[if_pos h10] at hgo;rw[hgo];rfl
  rw[if_neg h10] at hgo;replace hC3:=hC3.grow hE12;obtain⟨l',mp1,mp2⟩:=hC3.mp;refine zy ?_;refine ZC6 strK rfl Und.h rfl mp1 (k:=ScPk.name x) rfl rfl fun h13 o13 hU13 hM13=>?_;refine zy ?_;refine⟨k+1,?_,rfl,hk',?_,?_,rfl,rfl,rfl,rfl,rfl,rfl,trivial⟩
  ·show l.length-(k+1)<l.length-k;omega
  ·rw[htk,List.map_append]
   refine⟨hU13.ext hC3.ext hw hC3.lt,⟨_,hM13,?_⟩,hC3.lt⟩;exact fun x=>ZOE mp2 x
  ·rw[htk,List.map_append];exact hgo
 have hgN:goNm ScPk.name wrong 0 [] l=none:=by
  have hk2:k=l.length:=by omega
  rw[hgo,hk2,List.drop_length];rfl
 refine zy ?_;exact ZAB (ZAC rfl ⟨by rw[hgN];rfl,hC.ext⟩)
theorem ZSe {a:Option Addr}{cap:Nat}{l:List ScR}{wrong:ScR->Int}{h:Heap}{g2:FuncId}{f2:List Value}(hI:ZAM 5 ScRR h a l)(hlen:Len l)(hb2:ZAa Tryz.prog g2=true)
  (hp2:∀h1,Ext h h1->∀row x,x∈l->ScRR h1 row x->Sv Tryz.prog g2 (f2++([.agg ⟨row⟩]++[])) h1 (RetP fun v h'=>v=i64 (wrong x)/\Ext h1 h')) :
  Sv Tryz.prog 198 [.slice a l.length cap,.func (.func g2) ⟨f2⟩ ⟨[]⟩] h (RetP fun v h'=>v=tupO (goEa wrong 0 l)/\Ext h h'):=by
 refine ZA5 fun hw=>?_;refine ZAF Tryz.func198 rfl (by rw[Tryz.ntmps198];rfl) ?_;show Wc Tryz.prog ⟨198,24,none⟩ _ _ _ _ _;refine zy ?_
 refine ZAO (fun (k:Nat) m ds h'=>ds=[]/\k<=l.length/\Ext h h'/\goEa wrong 0 l=goEa wrong k (l.drop k) ∧
   AllK m [(1,.func (.func g2) ⟨f2⟩ ⟨[]⟩),(9,.slice a l.length cap),(10,i64 l.length),(11,i64 k)]) (fun k=>l.length-k) 0 ?_ ?_
 ·exact⟨rfl,Nat.zero_le _,Ext.refl _,rfl,rfl,rfl,rfl,rfl,trivial⟩
 rintro k m ds h1 ⟨rfl,hk,hC,hgo,hall⟩;refine Wc.le ?_ (Le.kn hall);refine zy ?_;refine zC (ZAf rfl rfl) (fun h6=>?_) (fun h6=>?_)
 ·have hk':k<l.length:=by simpa using h6
  have hdr:l.drop k=l[k]::l.drop (k+1):=List.drop_eq_getElem_cons hk';rw[hdr,goEa] at hgo;have hxm:=List.getElem_mem hk';obtain⟨b,o,oa,rfl,row,hrow,hma⟩:=hI k hk';generalize hmk:l[k]=x at *;obtain rfl:=hma;have hrow1:=hC.row hrow;refine zy ?_;refine zD (A_ix Und.h Tsz.h rfl rfl) ?_;refine ZBV rfl rfl Zr.h fun h2 hE2 hW2 hg2 hn2=>?_;refine zy ?_;refine ZAq rfl Tsz.h rfl rfl hg2 rfl rfl rfl fun h3 hU3=>?_;have hC3:=hU3.ext (hC.trans hE2) hw hC.2.1;have hg7:=hU3.at';generalize h1.nx=b7 at *;clear hU3;refine zy ?_;refine ZA2 rfl rfl rfl rfl rfl hb2 rfl rfl (hp2 _ hC3 _ _ hxm (rfl)) fun h12 hE12=>?_
  refine zy ?_;refine zC (ZAo rfl rfl) (fun h10=>?_) (fun h10=>?_)
  ·refine zy ?_
   refine ZAB (ZAC rfl ⟨?_,hC3.trans hE12⟩);rw[if_pos h10] at hgo;rw[hgo];rfl
  rw[if_neg h10] at hgo;refine zy ?_;refine⟨k+1,?_,rfl,hk',hC3.trans hE12,hgo,rfl,rfl,rfl,rfl,trivial⟩
  show l.length-(k+1)<l.length-k;omega
 have hgN:goEa wrong 0 l=none:=by
  have hk2:k=l.length:=by omega
  rw[hgo,hk2,List.drop_length];rfl
 refine zy ?_;exact ZAB (ZAC rfl ⟨by rw[hgN];rfl,hC⟩)
theorem ZTD {a:Option Addr}{cap:Nat}{l:List ScK}{wrong:ScK->Int}{h:Heap}{g2:FuncId}{f2:List Value}(hI:ZAM 4 ScKR h a l)(hlen:Len l)(hb2:ZAa Tryz.prog g2=true)
  (hp2:∀h1,Ext h h1->∀row x,x∈l->ScKR h1 row x->Sv Tryz.prog g2 (f2++([.agg ⟨row⟩]++[])) h1 (RetP fun v h'=>v=i64 (wrong x)/\Ext h1 h')) :
  Sv Tryz.prog 206 [.slice a l.length cap,.func (.func g2) ⟨f2⟩ ⟨[]⟩] h (RetP fun v h'=>v=tupO (goEa wrong 0 l)/\Ext h h'):=by
 refine ZA5 fun hw=>?_;refine ZAF Tryz.func206 rfl (by rw[Tryz.ntmps206];rfl) ?_;show Wc Tryz.prog ⟨206,24,none⟩ _ _ _ _ _;refine zy ?_
 refine ZAO (fun (k:Nat) m ds h'=>ds=[]/\k<=l.length/\Ext h h'/\goEa wrong 0 l=goEa wrong k (l.drop k) ∧
   AllK m [(1,.func (.func g2) ⟨f2⟩ ⟨[]⟩),(9,.slice a l.length cap),(10,i64 l.length),(11,i64 k)]) (fun k=>l.length-k) 0 ?_ ?_
 ·exact⟨rfl,Nat.zero_le _,Ext.refl _,rfl,rfl,rfl,rfl,rfl,trivial⟩
 rintro k m ds h1 ⟨rfl,hk,hC,hgo,hall⟩;refine Wc.le ?_ (Le.kn hall);refine zy ?_;refine zC (ZAf rfl rfl) (fun h6=>?_) (fun h6=>?_)
 ·have hk':k<l.length:=by simpa using h6
  have hdr:l.drop k=l[k]::l.drop (k+1):=List.drop_eq_getElem_cons hk';rw[hdr,goEa] at hgo;have hxm:=List.getElem_mem hk';obtain⟨b,o,oa,rfl,row,hrow,hma⟩:=hI k hk';generalize hmk:l[k]=x at *;obtain rfl:=hma;have hrow1:=hC.row hrow;refine zy ?_;refine zD (A_ix Und.h Tsz.h rfl rfl) ?_;refine ZBV rfl rfl Zr.h fun h2 hE2 hW2 hg2 hn2=>?_;refine zy ?_;refine ZAq rfl Tsz.h rfl rfl hg2 rfl rfl rfl fun h3 hU3=>?_;have hC3:=hU3.ext (hC.trans hE2) hw hC.2.1;have hg7:=hU3.at';generalize h1.nx=b7 at *;clear hU3;refine zy ?_;refine ZA2 rfl rfl rfl rfl rfl hb2 rfl rfl (hp2 _ hC3 _ _ hxm (rfl)) fun h12 hE12=>?_
  refine zy ?_;refine zC (ZAo rfl rfl) (fun h10=>?_) (fun h10=>?_)
  ·refine zy ?_
   refine ZAB (ZAC rfl ⟨?_,hC3.trans hE12⟩);rw[if_pos h10] at hgo;rw[hgo];rfl
  rw[if_neg h10] at hgo;refine zy ?_;refine⟨k+1,?_,rfl,hk',hC3.trans hE12,hgo,rfl,rfl,rfl,rfl,trivial⟩
  show l.length-(k+1)<l.length-k;omega
 have hgN:goEa wrong 0 l=none:=by
  have hk2:k=l.length:=by omega
  rw[hgo,hk2,List.drop_length];rfl
 refine zy ?_;exact ZAB (ZAC rfl ⟨by rw[hgN];rfl,hC⟩)
theorem ZSk {a:Option Addr}{cap:Nat}{l:List ScL}{wrong:ScL->Int}{h:Heap}{g2:FuncId}{f2:List Value}(hI:ZAM 4 ScLR h a l)(hlen:Len l)(hb2:ZAa Tryz.prog g2=true)
  (hp2:∀h1,Ext h h1->∀row x,x∈l->ScLR h1 row x->Sv Tryz.prog g2 (f2++([.agg ⟨row⟩]++[])) h1 (RetP fun v h'=>v=i64 (wrong x)/\Ext h1 h')) :
  Sv Tryz.prog 208 [.slice a l.length cap,.func (.func g2) ⟨f2⟩ ⟨[]⟩] h (RetP fun v h'=>v=tupO (goEa wrong 0 l)/\Ext h h'):=by
 refine ZA5 fun hw=>?_;refine ZAF Tryz.func208 rfl (by rw[Tryz.ntmps208];rfl) ?_;show Wc Tryz.prog ⟨208,24,none⟩ _ _ _ _ _;refine zy ?_
 refine ZAO (fun (k:Nat) m ds h'=>ds=[]/\k<=l.length/\Ext h h'/\goEa wrong 0 l=goEa wrong k (l.drop k) ∧
   AllK m [(1,.func (.func g2) ⟨f2⟩ ⟨[]⟩),(9,.slice a l.length cap),(10,i64 l.length),(11,i64 k)]) (fun k=>l.length-k) 0 ?_ ?_
 ·exact⟨rfl,Nat.zero_le _,Ext.refl _,rfl,rfl,rfl,rfl,rfl,trivial⟩
 rintro k m ds h1 ⟨rfl,hk,hC,hgo,hall⟩;refine Wc.le ?_ (Le.kn hall);refine zy ?_;refine zC (ZAf rfl rfl) (fun h6=>?_) (fun h6=>?_)
 ·have hk':k<l.length:=by simpa using h6
  have hdr:l.drop k=l[k]::l.drop (k+1):=List.drop_eq_getElem_cons hk';rw[hdr,goEa] at hgo;have hxm:=List.getElem_mem hk';obtain⟨b,o,oa,rfl,row,hrow,hma⟩:=hI k hk';generalize hmk:l[k]=x at *;obtain rfl:=hma;have hrow1:=hC.row hrow;refine zy ?_;refine zD (A_ix Und.h Tsz.h rfl rfl) ?_;refine ZBV rfl rfl Zr.h fun h2 hE2 hW2 hg2 hn2=>?_;refine zy ?_;refine ZAq rfl Tsz.h rfl rfl hg2 rfl rfl rfl fun h3 hU3=>?_;have hC3:=hU3.ext (hC.trans hE2) hw hC.2.1;have hg7:=hU3.at';generalize h1.nx=b7 at *;clear hU3;refine zy ?_;refine ZA2 rfl rfl rfl rfl rfl hb2 rfl rfl (hp2 _ hC3 _ _ hxm (rfl)) fun h12 hE12=>?_
  refine zy ?_;refine zC (ZAo rfl rfl) (fun h10=>?_) (fun h10=>?_)
  ·refine zy ?_
   refine ZAB (ZAC rfl ⟨?_,hC3.trans hE12⟩);rw[if_pos h10] at hgo;rw[hgo];rfl
  rw[if_neg h10] at hgo;refine zy ?_;refine⟨k+1,?_,rfl,hk',hC3.trans hE12,hgo,rfl,rfl,rfl,rfl,trivial⟩
  show l.length-(k+1)<l.length-k;omega
 have hgN:goEa wrong 0 l=none:=by
  have hk2:k=l.length:=by omega
  rw[hgo,hk2,List.drop_length];rfl
 refine zy ?_;exact ZAB (ZAC rfl ⟨by rw[hgN];rfl,hC⟩)
end Go.Dw
namespace Go.Dw
open Go Go.Dx Go.Proofs Go.Sort Go.RowKit Go.Lib
set_option maxRecDepth 100000
set_option maxHeartbeats 8000000
section
variable {α:Type} [Inhabited α]{enc:α->Value}{w:World}{blk n:Nat}{os:Array Obj}{c:Array Value}{el:TypeId}{d:Array α}
end
def ZCe (x:ScL):List Value:=[i64 x.print,i64 x.venue,i64 x.days.lo,i64 x.days.hi]
def ZET:Type:={ x:ScL // 0<=x.days.lo/\x.days.lo<=80000 }
instance:Inhabited ZET:=⟨⟨⟨0,0,⟨0,0⟩⟩,by decide⟩⟩
def encN (x:ZET):List Value:=ZCe x.1
def cfN (x y:ZET):Int:=x.1.days.lo-y.1.days.lo
theorem ZHF (x:ZET):(encN x).length=4:=rfl
theorem ZUy:SWO (ltOf cfN):=by
 refine⟨fun x=>?_,fun x y z h1 h2=>?_,fun x y z h1 h2=>?_⟩
 ·exact decide_eq_false (by unfold cfN;omega)
 ·have k1:x.1.days.lo-y.1.days.lo<0:=of_decide_eq_true h1
  have k2:y.1.days.lo-z.1.days.lo<0:=of_decide_eq_true h2;exact decide_eq_true (show x.1.days.lo-z.1.days.lo<0 by omega)
 ·have k1:¬x.1.days.lo-y.1.days.lo<0:=of_decide_eq_false h1
  have k2:¬y.1.days.lo-z.1.days.lo<0:=of_decide_eq_false h2;exact decide_eq_false (show ¬x.1.days.lo-z.1.days.lo<0 by omega)
theorem ZI6 (d:Array ZET):(flatK encN 4 d).toList=d.toList.flatMap encN:=by
 have hlen:∀l:List ZET,(l.flatMap encN).length=l.length*4:=by
  intro l
  induction l with
  | nil=>rfl
  | cons x l ih=>rw[List.flatMap_cons,List.length_append,ih,ZHF,List.length_cons];omega
 apply List.ext_getElem?;intro t
 by_cases ht:t<d.size*4
 ·have hi:t / 4<d.toList.length:=by rw[Array.length_toList];omega
  have h1:=ZBe (f:=encN) (k:=4) (P:=d.toList) hi fun _ _=>rfl;rw[ZDA (by rw[hlen,Array.length_toList];omega)] at h1;have h2:((List.drop (t / 4*4) (d.toList.flatMap encN)).take 4)[t % 4]?=(encN d.toList[t / 4])[t % 4]?:=congrArg (fun l:List Value=>l[t % 4]?) (Option.some.inj h1);rw[List.getElem?_take_of_lt (by omega),List.getElem?_drop,show t / 4*4+t % 4=t by omega] at h2;rw[h2,Array.getElem?_toList,Array.getElem?_eq_getElem (by simpa using ht)];have h3:=get_flatK encN 4 d t ht;rw[getElem!_pos _ t (by simpa using ht)] at h3;rw[h3,getElem!_pos d (t / 4) (by omega),Array.getElem_toList,List.getElem?_eq_getElem (by rw[ZHF];omega),getElem!_pos _ _ (by rw[ZHF];omega)]
 ·rw[List.getElem?_eq_none (by simp;omega),List.getElem?_eq_none (by rw[hlen,Array.length_toList];omega)]
theorem ZCn (P:List ScL):(P.flatMap ZCe).length=P.length*4:=by
 induction P with
 | nil=>rfl
 | cons x l ih=>rw[List.flatMap_cons,List.length_append,ih,List.length_cons];show 4+_=_;omega
theorem ZE9:∀P:List ScL,ZBm (P.flatMap ZCe)=true
 | []=>rfl
 | p::P=>by
  rw[List.flatMap_cons]
  show ZBm (i64 p.print::i64 p.venue::i64 p.days.lo::i64 p.days.hi::P.flatMap ZCe)=true
  simp only[ZBm,flat,Bool.true_and];exact ZE9 P
set_option maxHeartbeats 1000000 in
theorem ZV5 (a b:Int)(u1 u2 u3 v1 v2 v3:Value)(hw:IntKind.i64.wrap (a-b)=a-b)(W:World):Calls Tryz.prog 211 #[.agg #[u1,u2,.int .i64 a,u3],.agg #[v1,v2,.int .i64 b,v3]] W fun e w'=>e=.returned (.int .i64 (a-b))/\∃q os',w'=grow (W.drewN q) os':=by
 go_enter Tryz.func211,Tryz.ntmps211
 go_wp2
 go_ret
 exact⟨rfl,0,_,by rw[alloc_eq_grow,alloc_eq_grow,grow_grow];rfl⟩
theorem byLo (x y:ZET)(W:World):Calls Tryz.prog 211 #[.agg (encN x).toArray,.agg (encN y).toArray] W fun e w'=>e=.returned (.int .i64 (cfN x y))/\∃q os',w'=grow (W.drewN q) os' :=
 ZV5 x.1.days.lo y.1.days.lo _ _ _ _ _ _ (IntWalk.i64_in _ (by have:=x.2;have:=y.2;omega)) W
theorem ZI2:∀{P:List ScL},(∀p∈P,0<=p.days.lo/\p.days.lo<=80000)->∃Z:List ZET,Z.map (fun x:ZET=>x.1)=P/\Z.length=P.length/\Z.flatMap encN=P.flatMap ZCe
 | [],_=>⟨[],rfl,rfl,rfl⟩
 | p::P,h=>by
  obtain⟨Z,e,e2,e3⟩:=ZI2 (P:=P) fun x hx=>h x (List.mem_cons_of_mem _ hx);exact⟨(⟨p,h p List.mem_cons_self⟩:ZET)::Z,congrArg (List.cons p) e,congrArg Nat.succ e2,by show ZCe p++Z.flatMap encN=ZCe p++P.flatMap ZCe;rw[e3]⟩
theorem ZLg {h0 h:Heap}{v:Value}{P:List ScL}(hF:ZAD h0 h v 229 4 (P.flatMap ZCe) P.length)(hn:P.length<1000000)(hrl:∀p∈P,0<=p.days.lo/\p.days.lo<=80000) :
  Sv Tryz.prog 210 [v,.func (.func 211) ⟨[]⟩ ⟨[]⟩] h (RetP fun r h'=>r=.tuple ⟨[]⟩/\∃P':List ScL,P'.Perm P/\P'.Pairwise (fun a b=>a.days.lo<=b.days.lo)/\ZAD h0 h' v 229 4 (P'.flatMap ZCe) P.length/\Exb (fun c=>ZBB v=some c) h h'):=by
 refine⟨fun ι w args' hr hv=>?_⟩;obtain⟨l',rfl,hv⟩:=hv.arr
 cases hv with
 | cons hv1 hv2 =>
  cases hv2 with
  | cons hv3 hv4 =>
   cases hv4;have e3:=hv3.flat_eq rfl;subst e3
   rcases hF.lies hr hv1 (by decide) with ⟨rfl,rfl,hz,hn0⟩|⟨b,bi,op,cap,c,hb,hg,hi,rfl,hc,hle,hV,hl,hnew⟩
   ·have:P=[]:=List.eq_nil_of_length_eq_zero hn0
    subst this;refine (AnyF.slices_SortFunc_none ZNj none 0 _ w).mono ?_;rintro e w' ⟨rfl,rfl⟩;exact⟨.ret (.tuple ⟨[]⟩) h,⟨rfl,[],.refl _,.nil,ZAD.nil _ _ _ _,Exb.refl _ _⟩,ZDQ hr (VR.of_flat ι rfl) ⟨⟨Nat.le_refl _,fun _ _=>rfl,rfl,rfl⟩,rfl,Nat.le_refl _⟩⟩
   ·obtain⟨Z,e1,hZl,e2⟩:=ZI2 hrl
    have hcz:=hV.flat_eq (ZE9 P);rw[ZCn] at hle hcz;have hD:(Z.toArray:Array ZET).size=P.length:=by simp[hZl]
    have hfl:(flatK encN 4 Z.toArray).toList=c.toList.take (P.length*4):=by rw[ZI6,hcz];exact e2
    have hH:HoldsK encN 4 w bi.blk 0 Z.toArray:=ZHJ (enc:=id) hc (by rw[size_flatK,hD,hfl,List.map_id]);obtain⟨hbs,-⟩:=Array.getElem?_eq_some_iff.1 hc
    have hK:=AnyQ.slices_SortFunc ZNj 4 Tryz.isAgg229 Tryz.sizeOf229 encN ZHF (fun x v hv=>by
     simp only[encN,ZCe,List.mem_cons,List.not_mem_nil,or_false] at hv
     rcases hv with rfl|rfl|rfl|rfl <;> rfl) cfN ZUy 211 #[] bi.blk 0 cap Z.toArray w (enters_of Tryz.func211 (by kernel_rfl) rfl) (fun _ _ _ _ x y=>byLo x y _) hH hbs (by omega)
    rw[hD] at hK;refine hK.mono ?_;rintro e w' ⟨rfl,d',k,os,hp,hs,rfl⟩;obtain⟨hp1,-,hp2⟩:=hp;rw[hD] at hp1;have hp3:d'.toList.Perm Z:=by
     have x1:(d'.extract 0 P.length).toList=d'.toList:=by rw[Array.toList_extract];simp;rw[List.take_of_length_le (by rw[Array.length_toList];omega)]
     have x2:(Z.toArray.extract 0 P.length).toList=Z:=by rw[Array.toList_extract];simp;rw[List.take_of_length_le (by omega)]
     rw[x1,x2] at hp2;exact hp2
    have hPp:(d'.toList.map (fun x:ZET=>x.1)).Perm P:=by rw[<-e1];exact hp3.map _
    have hPl:(d'.toList.map (fun x:ZET=>x.1)).length=P.length:=hPp.length_eq;have e4:d'.toList.flatMap encN=(d'.toList.map (fun x:ZET=>x.1)).flatMap ZCe:=by rw[List.flatMap_map];rfl
    have hfs:(flatK encN 4 d').size=P.length*4:=by rw[size_flatK,hp1]
    have hP:=ZIE (h:=h) (vs2:=(d'.toList.map (fun x:ZET=>x.1)).flatMap ZCe) (c2:=putCells id 0 (flatK encN 4 d') c) (r:=.tuple ⟨[]⟩) (r':=.tuple ⟨[]⟩) hr hg hi hc ZDl (by rw[ZCn,ZCn,hPl]) (by
     have:=ZDz (enc:=id) (d:=flatK encN 4 d') (c:=c) (by rw[hfs];exact hle);rw[hfs,List.map_id,ZI6,e4] at this;rw[ZCn,hPl,this];exact VRL.of_flat ι (ZE9 _)) (VR.of_flat ι rfl) (ZGE (enc:=id) (d:=flatK encN 4 d') (n:=k) (os:=os) hc).1 (ZGE hc).2 rfl rfl
    refine⟨.ret (.tuple ⟨[]⟩) (h.set b (.cells ((d'.toList.map (fun x:ZET=>x.1)).flatMap ZCe) 229 op)),⟨rfl,d'.toList.map (fun x:ZET=>x.1),hPp,?_,hnew _ _ op (by rw[ZCn,ZCn,hPl]) (Upd.mk' h b _).at',?_⟩,hP⟩
    ·rw[List.pairwise_map,List.pairwise_iff_getElem]
     intro i j hi hj hij;rw[Array.length_toList] at hi hj;have h5:¬cfN d'[j]! d'[i]!<0:=of_decide_eq_false (hs i j (Nat.zero_le _) hij (by omega));rw[getElem!_pos d' i hi,getElem!_pos d' j hj] at h5;unfold cfN at h5;simp only[Array.getElem_toList];omega
    ·refine (Exb.ofUpd (Upd.mk' h b _)).mono fun x hx=>by rw[hx];exact hb
end Go.Dw
namespace Go.Dw
open Go Go.Dx Go.Proofs
set_option maxRecDepth 100000
set_option maxHeartbeats 8000000
theorem ZEg (s:Sp)(lo hi:Int)(h:Heap):Sv Tryz.prog 270 [.agg ⟨[i64 s.lo,i64 s.hi]⟩,i64 lo,i64 hi] h (RetP fun v h'=>v=i64 (oddS s lo hi)/\Ext h h'):=by
 refine ZA5 fun hw=>?_;refine ZAF Tryz.func270 rfl (by rw[Tryz.ntmps270];rfl) ?_;show Wc Tryz.prog ⟨270,26,none⟩ _ _ _ _ _;refine zy ?_;refine ZAg rfl rfl rfl fun h1 hE1 hW1 hg1 hn1=>?_;generalize h.nx=b1 at *;refine zy ?_;refine ZAk rfl rfl rfl rfl rfl Bod.h rfl rfl (ZA9 _ _ _ _) (fun h2=>?_) (fun h2=>?_)
 ·refine zy ?_
  exact ZAB (ZAC rfl ⟨by rw[oddS,if_pos (.inl (of_decide_eq_true h2))];rfl,hE1⟩)
 refine zy ?_;refine ZAk rfl rfl rfl rfl rfl Bod.h rfl rfl (ZA9 _ _ _ _) (fun h3=>?_) (fun h3=>?_)
 ·refine zy ?_
  exact ZAB (ZAC rfl ⟨by rw[oddS,if_pos (.inr (of_decide_eq_true h3))];rfl,hE1⟩)
 have hn:¬((s.lo<lo\/hi<s.lo)\/(s.hi<lo\/hi<s.hi)):=fun x=>x.elim (of_decide_eq_false h2) (of_decide_eq_false h3);refine zy ?_;refine zC (ZCl rfl rfl) (fun h4=>?_) (fun h4=>?_)
 ·refine zy ?_
  exact ZAB (ZAC rfl ⟨by rw[oddS,if_neg hn,if_pos h4];rfl,hE1⟩)
 refine zy ?_;exact ZAB (ZAC rfl ⟨by rw[oddS,if_neg hn,if_neg h4];rfl,hE1⟩)
theorem ZDi {tc:List Value}{t:ScT}{h:Heap}(ht:ZDk h tc t)(hL:Len t.lands)(n:Int):Sv Tryz.prog 269 [.agg ⟨tc⟩,i64 n] h (RetP fun v h'=>v=.bool (decide (ZFt t n))/\Ext h h'):=by
 obtain⟨al,cl,at',ct,a1,c1,a2,c2,a3,c3,a4,c4,a5,c5,a6,c6,rfl,-⟩:=ht;refine ZA5 fun hw=>?_;refine ZAF Tryz.func269 rfl (by rw[Tryz.ntmps269];rfl) ?_;show Wc Tryz.prog ⟨269,12,none⟩ _ _ _ _ _;refine zy ?_;refine ZAg rfl rfl rfl fun h1 hE1 hW1 hg1 hn1=>?_;generalize h.nx=b1 at *;refine zy ?_;refine zV (ZA9 _ _ _ _) ?_;exact ZAB (ZAC rfl ⟨rfl,hE1⟩)
theorem ZOd {tc rc:List Value}{t:ScT}{v:ScV}{h:Heap}(ht:ZDk h tc t)(hT:t.Fit)(hm:ScVR h rc v):Sv Tryz.prog 197 [.agg ⟨tc⟩,.agg ⟨rc⟩] h (RetP fun r h'=>r=i64 (ZBL t v)/\Ext h h'):=by
 have ht0:=ht;have hL:=hT.lands;obtain⟨al,cl,at',ct,a1,c1,a2,c2,a3,c3,a4,c4,a5,c5,a6,c6,rfl,-⟩:=ht;refine ZA5 fun hw=>?_;refine ZAF Tryz.func197 rfl (by rw[Tryz.ntmps197];rfl) ?_;show Wc Tryz.prog ⟨197,32,none⟩ _ _ _ _ _;obtain rfl:=hm;refine zy ?_;refine ZAg rfl rfl rfl fun h1 hE1 hW1 hg1 hn1=>?_;refine ZAg rfl rfl rfl fun h2 hE2 hW2 hg2 hn2=>?_;replace hg1:=hE2.get hg1;have hE:=hE1.trans hE2;generalize h.nx=b1 at *;generalize h1.nx=b2 at *;refine zy ?_;refine ZAh rfl rfl rfl rfl rfl Bod.h rfl rfl (ZDi (ht0.ext hE) hL _) (fun h3 h4 hE4=>?_) (fun h3 h4 hE4=>?_)
 ·refine zy ?_
  exact ZAB (ZAC rfl ⟨by rw[ZBL,if_pos (of_decide_eq_true h3)];rfl,hE.trans hE4⟩)
 have hA:=of_decide_eq_false h3;replace hg1:=hE4.get hg1;replace hg2:=hE4.get hg2;replace hE:=hE.trans hE4;refine zy ?_;refine ZAk rfl rfl rfl rfl rfl Bod.h rfl rfl (ZA9 _ _ _ _) (fun h5=>?_) (fun h5=>?_)
 ·refine zy ?_
  exact ZAB (ZAC rfl ⟨by rw[ZBL,if_neg hA,if_pos (.inl (of_decide_eq_true h5))];rfl,hE⟩)
 refine zy ?_;refine ZAk rfl rfl rfl rfl rfl Bod.h rfl rfl (ZA9 _ _ _ _) (fun h6=>?_) (fun h6=>?_)
 ·refine zy ?_
  exact ZAB (ZAC rfl ⟨by rw[ZBL,if_neg hA,if_pos (.inr (.inl (of_decide_eq_true h6)))];rfl,hE⟩)
 refine zy ?_;refine ZAk rfl rfl rfl rfl rfl Bod.h rfl rfl (ZA9 _ _ _ _) (fun h7=>?_) (fun h7=>?_)
 ·refine zy ?_
  exact ZAB (ZAC rfl ⟨by rw[ZBL,if_neg hA,if_pos (.inr (.inr (.inl (of_decide_eq_true h7))))];rfl,hE⟩)
 refine zy ?_;refine ZAk rfl rfl rfl rfl rfl Bod.h rfl rfl (ZA9 _ _ _ _) (fun h8=>?_) (fun h8=>?_)
 ·refine zy ?_
  exact ZAB (ZAC rfl ⟨by rw[ZBL,if_neg hA,if_pos (.inr (.inr (.inr (of_decide_eq_true h8))))];rfl,hE⟩)
 have hB:¬((v.proj<0\/2<v.proj)\/(v.change<0\/60<v.change)\/(v.turn<0\/60<v.turn)\/(v.spool<1\/200000<v.spool)):=fun x=>x.elim (of_decide_eq_false h5) fun x=>x.elim (of_decide_eq_false h6) fun x=>x.elim (of_decide_eq_false h7) (of_decide_eq_false h8);refine zy ?_;refine zW (ZEg v.speeds _ _ _) fun h9 hE9=>?_;refine zy ?_;exact ZAB (ZAC rfl ⟨by rw[ZBL,if_neg hA,if_neg hB];rfl,hE.trans hE9⟩)
theorem ZPM {tc rc:List Value}{t:ScT}{v:ScR}{h:Heap}(ht:ZDk h tc t)(hT:t.Fit)(hm:ScRR h rc v)(hf:v.Fit):Sv Tryz.prog 199 [.agg ⟨tc⟩,.agg ⟨rc⟩] h (RetP fun r h'=>r=i64 (ZBJ t v)/\Ext h h'):=by
 have ht0:=ht;have hL:=hT.lands;obtain⟨al,cl,at',ct,a1,c1,a2,c2,a3,c3,a4,c4,a5,c5,a6,c6,rfl,-⟩:=ht;refine ZA5 fun hw=>?_;refine ZAF Tryz.func199 rfl (by rw[Tryz.ntmps199];rfl) ?_;show Wc Tryz.prog ⟨199,29,none⟩ _ _ _ _ _;obtain rfl:=hm;have hw1:=hf.work;have hw2:=hf.version;refine zy ?_;refine ZAg rfl rfl rfl fun h1 hE1 hW1 hg1 hn1=>?_;refine ZAg rfl rfl rfl fun h2 hE2 hW2 hg2 hn2=>?_;replace hg1:=hE2.get hg1;have hE:=hE1.trans hE2;generalize h.nx=b1 at *;generalize h1.nx=b2 at *;refine zy ?_;refine ZAh rfl rfl rfl rfl rfl Bod.h rfl rfl (ZAp _ _ hw1) (fun h3 h4 hE4=>?_) (fun h3 h4 hE4=>?_);rotate_left
 ·refine zy ?_
  rw[ZBG] at h3;exact ZAB (ZAC rfl ⟨by rw[ZBJ,if_pos (.inl h3)];rfl,hE.trans hE4⟩)
 rw[ZBG] at h3;replace hg1:=hE4.get hg1;replace hg2:=hE4.get hg2;replace hE:=hE.trans hE4;clear hE4;refine zy ?_;refine zC (ZBF rfl rfl) (fun h5=>?_) (fun h5=>?_)
 ·refine zy ?_
  refine ZAh rfl rfl rfl rfl rfl Bod.h rfl rfl (ZAp _ _ hw2) (fun h6 h7 hE7=>?_) (fun h6 h7 hE7=>?_);rotate_left
  ·refine zy ?_
   rw[ZBG] at h6;exact ZAB (ZAC rfl ⟨by rw[ZBJ,if_pos (.inr ⟨h5,h6⟩)];rfl,hE.trans hE7⟩)
  rw[ZBG] at h6;have hA:¬(ZBI v.work=false\/(v.version≠[]/\ZBI v.version=false)):=by rw[h3,h6];simp
  replace hg1:=hE7.get hg1;replace hg2:=hE7.get hg2;replace hE:=hE.trans hE7;clear hE7;refine zy ?_;refine ZAh rfl rfl rfl rfl rfl Bod.h rfl rfl (ZDi (ht0.ext hE) hL _) (fun h7 h8 hE8=>?_) (fun h7 h8 hE8=>?_)
  ·refine zy ?_
   exact ZAB (ZAC rfl ⟨by rw[ZBJ,if_neg hA,if_pos (of_decide_eq_true h7)];rfl,hE.trans hE8⟩)
  have hB:=of_decide_eq_false h7;replace hg1:=hE8.get hg1;replace hg2:=hE8.get hg2;replace hE:=hE.trans hE8;refine zy ?_;refine zW (ZEg v.days _ _ _) fun h9 hE9=>?_;refine zy ?_;exact ZAB (ZAC rfl ⟨by rw[ZBJ,if_neg hA,if_neg hB];rfl,hE.trans hE9⟩)
 ·have hA:¬(ZBI v.work=false\/(v.version≠[]/\ZBI v.version=false)):=by rw[h3];exact fun x=>x.elim (fun x=>nomatch x) (fun x=>h5 x.1)
  refine zy ?_;refine ZAh rfl rfl rfl rfl rfl Bod.h rfl rfl (ZDi (ht0.ext hE) hL _) (fun h7 h8 hE8=>?_) (fun h7 h8 hE8=>?_)
  ·refine zy ?_
   exact ZAB (ZAC rfl ⟨by rw[ZBJ,if_neg hA,if_pos (of_decide_eq_true h7)];rfl,hE.trans hE8⟩)
  have hB:=of_decide_eq_false h7;replace hg1:=hE8.get hg1;replace hg2:=hE8.get hg2;replace hE:=hE.trans hE8;refine zy ?_;refine zW (ZEg v.days _ _ _) fun h9 hE9=>?_;refine zy ?_;exact ZAB (ZAC rfl ⟨by rw[ZBJ,if_neg hA,if_neg hB];rfl,hE.trans hE9⟩)
theorem ZLo (n:Int)(h:Heap):Sv Tryz.prog 271 [i64 n] h (RetP fun v h'=>v=.bool (decide (n<1\/200000<n))/\h'=h):=by
 refine ZAF Tryz.func271 rfl (by rw[Tryz.ntmps271];rfl) ?_;show Wc Tryz.prog ⟨271,5,none⟩ _ _ _ _ _;refine zy ?_;refine zV (ZA9 _ _ _ _) ?_;exact ZAB (ZAC rfl ⟨rfl,rfl⟩)
theorem ZOw {tc rc:List Value}{t:ScT}{v:ScP}{h:Heap}(ht:ZDk h tc t)(hT:t.Fit)(hm:ScPR h rc v)(hf:v.Fit):Sv Tryz.prog 202 [.agg ⟨tc⟩,.agg ⟨rc⟩] h (RetP fun r h'=>r=i64 (ZAv t v)/\Ext h h'):=by
 have ht0:=ht;have hL:=hT.lands;obtain⟨al,cl,at',ct,a1,c1,a2,c2,a3,c3,a4,c4,a5,c5,a6,c6,rfl,-⟩:=ht;refine ZA5 fun hw=>?_;refine ZAF Tryz.func202 rfl (by rw[Tryz.ntmps202];rfl) ?_;show Wc Tryz.prog ⟨202,36,none⟩ _ _ _ _ _;have hm0:=hm;obtain⟨ap,cp,rfl,hR⟩:=hm;have hw1:=hf.work;have hw2:=hf.version;have hw3:=hf.reels;refine zy ?_;refine ZAg rfl rfl rfl fun h1 hE1 hW1 hg1 hn1=>?_;refine ZAg rfl rfl rfl fun h2 hE2 hW2 hg2 hn2=>?_;replace hg1:=hE2.get hg1;have hE:=hE1.trans hE2;generalize h.nx=b1 at *;generalize h1.nx=b2 at *;refine zy ?_;refine ZAh rfl rfl rfl rfl rfl Bod.h rfl rfl (ZAp _ _ hw1) (fun h3 h4 hE4=>?_) (fun h3 h4 hE4=>?_)
 rotate_left
 ·refine zy ?_
  rw[ZBG] at h3;exact ZAB (ZAC rfl ⟨by rw[ZAv,if_pos (.inl h3)];rfl,hE.trans hE4⟩)
 rw[ZBG] at h3;replace hg1:=hE4.get hg1;replace hg2:=hE4.get hg2;replace hE:=hE.trans hE4;clear hE4;refine zy ?_;refine ZAh rfl rfl rfl rfl rfl Bod.h rfl rfl (ZAp _ _ hw2) (fun h5 h6 hE6=>?_) (fun h5 h6 hE6=>?_);rotate_left
 ·refine zy ?_
  rw[ZBG] at h5;exact ZAB (ZAC rfl ⟨by rw[ZAv,if_pos (.inr h5)];rfl,hE.trans hE6⟩)
 rw[ZBG] at h5;replace hg1:=hE6.get hg1;replace hg2:=hE6.get hg2;replace hE:=hE.trans hE6;clear hE6;have hA:¬(ZBI v.work=false\/ZBI v.version=false):=by rw[h3,h5];simp
 refine zy ?_;refine ZAk rfl rfl rfl rfl rfl Bod.h rfl rfl (ZA9 _ _ _ _) (fun h7=>?_) (fun h7=>?_)
 ·refine zy ?_
  exact ZAB (ZAC rfl ⟨by rw[ZAv,if_neg hA,if_pos (by have:=of_decide_eq_true h7;omega)];rfl,hE⟩)
 have hB:¬(v.reels.length<1\/12<v.reels.length):=by have:=of_decide_eq_false h7;omega
 refine zy ?_;refine ZAh rfl rfl rfl rfl rfl Bod.h rfl rfl (ZD7 (first:=[]) (capv:=[]) (p:=fun n=>decide (n<1\/200000<n)) (hR.ext hE) Bod.h (fun h3 _ x _=>(ZLo x h3).grows) hw3) (fun h8 h9 hE9=>?_) (fun h8 h9 hE9=>?_)
 ·refine zy ?_
  exact ZAB (ZAC rfl ⟨by rw[ZAv,if_neg hA,if_neg hB,if_pos h8];rfl,hE.trans hE9⟩)
 replace hg1:=hE9.get hg1;replace hg2:=hE9.get hg2;replace hE:=hE.trans hE9;have hC:¬(v.reels.any fun n=>decide (n<1\/200000<n))=true:=by rw[h8];simp
 refine zy ?_;refine zW (ZEg v.speeds _ _ _) fun h10 hE10=>?_;replace hg1:=hE10.get hg1;replace hg2:=hE10.get hg2;replace hE:=hE.trans hE10;refine zy ?_;refine zC (ZAo rfl rfl) (fun h11=>?_) (fun h11=>?_)
 ·refine zy ?_
  exact ZAB (ZAC rfl ⟨by rw[ZAv,if_neg hA,if_neg hB,if_neg hC,if_pos h11];rfl,hE⟩)
 refine zy ?_;refine ZAh rfl rfl rfl rfl rfl Bod.h rfl rfl (ZDi (ht0.ext hE) hL _) (fun h12 h13 hE13=>?_) (fun h12 h13 hE13=>?_)
 ·refine zy ?_
  exact ZAB (ZAC rfl ⟨by rw[ZAv,if_neg hA,if_neg hB,if_neg hC,if_neg h11,if_pos (of_decide_eq_true h12)];rfl,hE.trans hE13⟩)
 refine zy ?_;exact ZAB (ZAC rfl ⟨by rw[ZAv,if_neg hA,if_neg hB,if_neg hC,if_neg h11,if_neg (of_decide_eq_false h12)];rfl,hE.trans hE13⟩)
theorem ZQE {tc rc:List Value}{t:ScT}{v:ScPk}{h:Heap}(ht:ZDk h tc t)(hT:t.Fit)(hm:ZDC h rc v)(hf:v.Fit):Sv Tryz.prog 205 [.agg ⟨tc⟩,.agg ⟨rc⟩] h (RetP fun r h'=>r=i64 (ZBU v)/\Ext h h'):=by
 have ht0:=ht;have hL:=hT.lands;obtain⟨al,cl,at',ct,a1,c1,a2,c2,a3,c3,a4,c4,a5,c5,a6,c6,rfl,-⟩:=ht;refine ZA5 fun hw=>?_;refine ZAF Tryz.func205 rfl (by rw[Tryz.ntmps205];rfl) ?_;show Wc Tryz.prog ⟨205,25,none⟩ _ _ _ _ _;obtain rfl:=hm;have hw1:=hf.work;have hw2:=hf.version;refine zy ?_;refine ZAg rfl rfl rfl fun h1 hE1 hW1 hg1 hn1=>?_;refine ZAg rfl rfl rfl fun h2 hE2 hW2 hg2 hn2=>?_;replace hg1:=hE2.get hg1;have hE:=hE1.trans hE2;generalize h.nx=b1 at *;generalize h1.nx=b2 at *;refine zy ?_;refine ZAh rfl rfl rfl rfl rfl Bod.h rfl rfl (ZAp _ _ hw1) (fun h3 h4 hE4=>?_) (fun h3 h4 hE4=>?_);rotate_left
 ·refine zy ?_
  rw[ZBG] at h3;exact ZAB (ZAC rfl ⟨by rw[ZBU,if_pos (.inl h3)];rfl,hE.trans hE4⟩)
 rw[ZBG] at h3;replace hg1:=hE4.get hg1;replace hg2:=hE4.get hg2;replace hE:=hE.trans hE4;clear hE4;refine zy ?_;refine ZAh rfl rfl rfl rfl rfl Bod.h rfl rfl (ZAp _ _ hw2) (fun h5 h6 hE6=>?_) (fun h5 h6 hE6=>?_);rotate_left
 ·refine zy ?_
  rw[ZBG] at h5;exact ZAB (ZAC rfl ⟨by rw[ZBU,if_pos (.inr h5)];rfl,hE.trans hE6⟩)
 rw[ZBG] at h5;replace hg1:=hE6.get hg1;replace hg2:=hE6.get hg2;replace hE:=hE.trans hE6;clear hE6;have hA:¬(ZBI v.work=false\/ZBI v.version=false):=by rw[h3,h5];simp
 refine zy ?_;refine ZAk rfl rfl rfl rfl rfl Bod.h rfl rfl (ZA9 _ _ _ _) (fun h7=>?_) (fun h7=>?_)
 ·refine zy ?_
  exact ZAB (ZAC rfl ⟨by rw[ZBU,if_neg hA,if_pos (.inl (of_decide_eq_true h7))];rfl,hE⟩)
 refine zy ?_;refine ZAk rfl rfl rfl rfl rfl Bod.h rfl rfl (ZA9 _ _ _ _) (fun h8=>?_) (fun h8=>?_)
 ·refine zy ?_
  exact ZAB (ZAC rfl ⟨by rw[ZBU,if_neg hA,if_pos (.inr (of_decide_eq_true h8))];rfl,hE⟩)
 refine zy ?_;exact ZAB (ZAC rfl ⟨by rw[ZBU,if_neg hA,if_neg (fun x=>x.elim (of_decide_eq_false h7) (of_decide_eq_false h8))];rfl,hE⟩)
theorem ZTN {tc rc:List Value}{t:ScT}{v:ScK}{h:Heap}(ht:ZDk h tc t)(hT:t.Fit)(hm:ScKR h rc v):Sv Tryz.prog 207 [.agg ⟨tc⟩,.agg ⟨rc⟩] h (RetP fun r h'=>r=i64 (ZD9 t v)/\Ext h h'):=by
 have ht0:=ht;have hL:=hT.lands;obtain⟨al,cl,at',ct,a1,c1,a2,c2,a3,c3,a4,c4,a5,c5,a6,c6,rfl,-⟩:=ht;refine ZA5 fun hw=>?_;refine ZAF Tryz.func207 rfl (by rw[Tryz.ntmps207];rfl) ?_;show Wc Tryz.prog ⟨207,26,none⟩ _ _ _ _ _;obtain rfl:=hm;have hq1:=hT.packs;have hq2:=hT.venues;refine zy ?_;refine ZAg rfl rfl rfl fun h1 hE1 hW1 hg1 hn1=>?_;refine ZAg rfl rfl rfl fun h2 hE2 hW2 hg2 hn2=>?_;replace hg1:=hE2.get hg1;have hE:=hE1.trans hE2;generalize h.nx=b1 at *;generalize h1.nx=b2 at *;refine zy ?_;refine ZAk rfl rfl rfl rfl rfl Bod.h rfl rfl (ZA9 _ _ _ _) (fun h3=>?_) (fun h3=>?_)
 ·refine zy ?_
  exact ZAB (ZAC rfl ⟨by rw[ZD9,if_pos (.inl (of_decide_eq_true h3))];rfl,hE⟩)
 refine zy ?_;refine ZAk rfl rfl rfl rfl rfl Bod.h rfl rfl (ZA9 _ _ _ _) (fun h4=>?_) (fun h4=>?_)
 ·refine zy ?_
  exact ZAB (ZAC rfl ⟨by rw[ZD9,if_pos (.inr (of_decide_eq_true h4))];rfl,hE⟩)
 refine zy ?_;refine zW (ZEg v.window _ _ _) fun h5 hE5=>?_;refine zy ?_;exact ZAB (ZAC rfl ⟨by rw[ZD9,if_neg (fun x=>x.elim (of_decide_eq_false h3) (of_decide_eq_false h4))];rfl,hE.trans hE5⟩)
theorem ZRF {tc rc:List Value}{t:ScT}{v:ScL}{h:Heap}(ht:ZDk h tc t)(hT:t.Fit)(hm:ScLR h rc v):Sv Tryz.prog 209 [.agg ⟨tc⟩,.agg ⟨rc⟩] h (RetP fun r h'=>r=i64 (ZBZ t v)/\Ext h h'):=by
 have ht0:=ht;have hL:=hT.lands;obtain⟨al,cl,at',ct,a1,c1,a2,c2,a3,c3,a4,c4,a5,c5,a6,c6,rfl,-⟩:=ht;refine ZA5 fun hw=>?_;refine ZAF Tryz.func209 rfl (by rw[Tryz.ntmps209];rfl) ?_;show Wc Tryz.prog ⟨209,26,none⟩ _ _ _ _ _;obtain rfl:=hm;have hq1:=hT.prints;have hq2:=hT.venues;refine zy ?_;refine ZAg rfl rfl rfl fun h1 hE1 hW1 hg1 hn1=>?_;refine ZAg rfl rfl rfl fun h2 hE2 hW2 hg2 hn2=>?_;replace hg1:=hE2.get hg1;have hE:=hE1.trans hE2;generalize h.nx=b1 at *;generalize h1.nx=b2 at *;refine zy ?_;refine ZAk rfl rfl rfl rfl rfl Bod.h rfl rfl (ZA9 _ _ _ _) (fun h3=>?_) (fun h3=>?_)
 ·refine zy ?_
  exact ZAB (ZAC rfl ⟨by rw[ZBZ,if_pos (.inl (of_decide_eq_true h3))];rfl,hE⟩)
 refine zy ?_;refine ZAk rfl rfl rfl rfl rfl Bod.h rfl rfl (ZA9 _ _ _ _) (fun h4=>?_) (fun h4=>?_)
 ·refine zy ?_
  exact ZAB (ZAC rfl ⟨by rw[ZBZ,if_pos (.inr (of_decide_eq_true h4))];rfl,hE⟩)
 refine zy ?_;refine zW (ZEg v.days _ _ _) fun h5 hE5=>?_;refine zy ?_;exact ZAB (ZAC rfl ⟨by rw[ZBZ,if_neg (fun x=>x.elim (of_decide_eq_false h3) (of_decide_eq_false h4))];rfl,hE.trans hE5⟩)
def tup3 (x:Int×Int×Int):Value:=.tuple ⟨[i64 x.1,i64 x.2.1,i64 x.2.2]⟩
theorem ZJK {a:Option Addr}{cap:Nat}{l:List (List Int)}{h:Heap}{g:FuncId}{first capv:List Value}{p:List Int->Bool}(hI:ZAM 1 ZCh h a l)(hbd:ZAa Tryz.prog g=true)
  (hp:∀h1,Ext h h1->∀ap c x,x∈l->ZC9 h1 ap x->Sv Tryz.prog g (first++([.slice ap x.length c]++capv)) h1 (RetP fun v h'=>v=.bool (p x)/\Ext h1 h')) (hlen:l.length<9223372036854775808) :
  Sv Tryz.prog 305 [.slice a l.length cap,.func (.func g) ⟨first⟩ ⟨capv⟩] h (RetP fun v h'=>v=i64 (ZCW p l)/\Ext h h'):=by
 refine ZAF Tryz.func305 rfl (by rw[Tryz.ntmps305];rfl) ?_;show Wc Tryz.prog ⟨305,19,none⟩ _ _ _ _ _;refine zy ?_
 refine ZAO (fun (k:Nat) m ds h'=>ds=[]/\Ext h h'/\k<=l.length/\(∀j (hj:j<l.length),j<k->p l[j]=false)/\AllK m [(0,.slice a l.length cap),(1,.func (.func g) ⟨first⟩ ⟨capv⟩),(7,i64 l.length),(8,i64 k)])
  (fun k=>l.length-k) 0 ?_ ?_
 ·exact⟨rfl,Ext.refl _,Nat.zero_le _,(fun _ _ hj=>by omega),rfl,rfl,rfl,rfl,trivial⟩
 rintro k m ds h' ⟨rfl,hE,hk,hno,hall⟩;refine Wc.le ?_ (Le.kn hall);refine zy ?_;refine zC (ZAf rfl rfl) (fun h1=>?_) (fun h1=>?_)
 ·have hk':k<l.length:=by simpa using h1
  obtain⟨b,o,oa,rfl,row,hrow,ap,c,rfl,hIp⟩:=hI k hk';have hc:ZAZ h' b (o+k*1)=some (.slice ap l[k].length c):=ZAQ (k:=0) (hE.row hrow) rfl;refine zy ?_;refine zD (A_ix Und.h Tsz.h rfl rfl) ?_;refine ZAh rfl rfl rfl rfl rfl hbd rfl rfl (hp h' hE _ _ _ (List.getElem_mem hk') (hIp.ext hE)) (fun hb h2 hE2=>?_) (fun hb h2 hE2=>?_)
  ·refine zy ?_
   refine ZAB (ZAC rfl ⟨?_,hE.trans hE2⟩);have:l.findIdx? p=some k:=by
    rw[List.findIdx?_eq_some_iff_getElem];exact⟨hk',hb,fun j hj=>by simp[hno j (by omega) hj]⟩
   simp[ZCW,this];rfl
  ·refine zy ?_
   refine⟨k+1,?_,rfl,hE.trans hE2,hk',?_,rfl,rfl,rfl,rfl,trivial⟩
   ·show l.length-(k+1)<l.length-k;omega
   ·intro j hj hlt
    rcases Nat.lt_or_ge j k with g|g
    ·exact hno j hj g
    ·have:j=k:=by omega
     subst this;exact hb
 ·have hk2:k=l.length:=by omega
  subst hk2;refine zy ?_;refine ZAB (ZAC rfl ⟨?_,hE⟩);have:l.findIdx? p=none:=by
   rw[List.findIdx?_eq_none_iff];intro x hx;obtain⟨j,hj,rfl⟩:=List.getElem_of_mem hx;exact hno j hj hj
  simp[ZCW,this];rfl
theorem ZD1 {a:Option Addr}{cap:Nat}{l:List (List Int)}{h:Heap}{g:FuncId}{first capv:List Value}{p:List Int->Bool}(hI:ZAM 1 ZCh h a l)(hbd:ZAa Tryz.prog g=true)
  (hp:∀h1,Ext h h1->∀ap c x,x∈l->ZC9 h1 ap x->Sv Tryz.prog g (first++([.slice ap x.length c]++capv)) h1 (RetP fun v h'=>v=.bool (p x)/\Ext h1 h')) (hlen:l.length<9223372036854775808) :
  Sv Tryz.prog 268 [.slice a l.length cap,.func (.func g) ⟨first⟩ ⟨capv⟩] h (RetP fun v h'=>v=.bool (l.any p)/\Ext h h'):=by
 refine ZAF Tryz.func268 rfl (by rw[Tryz.ntmps268];rfl) ?_;show Wc Tryz.prog ⟨268,9,none⟩ _ _ _ _ _;refine zy ?_;refine zW (ZJK hI hbd hp hlen) fun h1 hE1=>?_;refine zy ?_;refine zC (ZDh rfl rfl) (fun hb=>?_) (fun hb=>?_)
 ·refine zy ?_
  exact ZAB (ZAC rfl ⟨by rw[<-ZBb,decide_eq_true hb];rfl,hE1⟩)
 ·refine zy ?_
  exact ZAB (ZAC rfl ⟨by rw[<-ZBb,decide_eq_false hb];rfl,hE1⟩)
theorem ZKs {b1:Nat}{t:ScT}{al:Option Addr}{cl:Nat}{r:List Value}{f:Int}{ap:Option Addr}{c:Nat}{x:List Int}{h:Heap}(hg:h.get b1=some (.cells (i64 f::.slice al t.lands.length cl::r) 225 false)) :
  Sv Tryz.prog 264 [.slice ap x.length c,.pointer (some ⟨b1,0,none⟩)] h (RetP fun v h'=>v=.bool (decide (x.length≠t.lands.length))/\h'=h):=by
 refine ZAF Tryz.func264 rfl (by rw[Tryz.ntmps264];rfl) ?_;show Wc Tryz.prog ⟨264,11,none⟩ _ _ _ _ _;refine zy ?_;refine zC (ZAo rfl rfl) (fun h1=>?_) (fun h1=>?_)
 ·refine zy ?_
  exact ZAB (ZAC rfl ⟨by rw[decide_eq_true (show x.length≠t.lands.length from fun e=>h1 (by rw[e]))];rfl,rfl⟩)
 ·refine zy ?_
  exact ZAB (ZAC rfl ⟨by rw[decide_eq_false (show ¬x.length≠t.lands.length from fun e=>e (by have:=Decidable.not_not.1 h1;omega))];rfl,rfl⟩)
theorem ZKp (n:Int)(h:Heap):Sv Tryz.prog 267 [i64 n] h (RetP fun v h'=>v=.bool (decide (n < -1\/60<n))/\h'=h):=by
 refine ZAF Tryz.func267 rfl (by rw[Tryz.ntmps267];rfl) ?_;show Wc Tryz.prog ⟨267,5,none⟩ _ _ _ _ _;refine zy ?_;refine zV (ZA9 _ _ _ _) ?_;exact ZAB (ZAC rfl ⟨rfl,rfl⟩)
theorem ZLj {ap:Option Addr}{c:Nat}{x:List Int}{h:Heap}(hI:ZC9 h ap x)(hL:Len x) :
  Sv Tryz.prog 265 [.slice ap x.length c] h (RetP fun v h'=>v=.bool (x.any fun n=>decide (n < -1\/60<n))/\Ext h h'):=by
 refine ZAF Tryz.func265 rfl (by rw[Tryz.ntmps265];rfl) ?_;show Wc Tryz.prog ⟨265,5,none⟩ _ _ _ _ _;refine zy ?_;refine zW (ZD7 (first:=[]) (capv:=[]) (p:=fun n=>decide (n < -1\/60<n)) hI Bod.h (fun h3 _ x _=>(ZKp x h3).grows) hL) fun h1 hE1=>?_;refine zy ?_;exact ZAB (ZAC rfl ⟨rfl,hE1⟩)
theorem ZMS {tc:List Value}{t:ScT}{h:Heap}(ht:ZDk h tc t)(hT:t.Fit):Sv Tryz.prog 194 [.agg ⟨tc⟩] h (RetP fun r h'=>r=i64 (ZBR t)/\Ext h h'):=by
 obtain⟨al,cl,at',ct,a1,c1,a2,c2,a3,c3,a4,c4,a5,c5,a6,c6,rfl,-,hTv,-⟩:=ht;have hL:=hT.lands;have hL2:=hT.travel;refine ZA5 fun hw=>?_;refine ZAF Tryz.func194 rfl (by rw[Tryz.ntmps194];rfl) ?_;show Wc Tryz.prog ⟨194,29,none⟩ _ _ _ _ _;refine zy ?_;refine ZAg rfl rfl rfl fun h1 hE1 hW1 hg1 hn1=>?_;generalize h.nx=b1 at *;refine zy ?_;refine zC (ZAo rfl rfl) (fun h3=>?_) (fun h3=>?_)
 ·refine zy ?_
  exact ZAB (ZAC rfl ⟨by rw[ZBR,if_pos (fun e=>h3 (by rw[e]))];rfl,hE1⟩)
 have hA:¬t.travel.length≠t.lands.length:=fun e=>e (by have:=Decidable.not_not.1 h3;omega);refine zy ?_;refine ZAh rfl rfl rfl rfl rfl Bod.h rfl rfl (ZD1 (first:=[]) (capv:=[.pointer (some ⟨b1,0,none⟩)]) (p:=fun l=>decide (l.length≠t.lands.length)) (ZAM.ext (R:=ZCh) (fun x y=>ZCh.ext x y) hTv hE1) Bod.h (fun h3 hE3 _ _ x _ _=>(ZKs (hE3.get hg1)).grows) hL2) (fun h4 h5 hE5=>?_) (fun h4 h5 hE5=>?_)
 ·refine zy ?_
  exact ZAB (ZAC rfl ⟨by rw[ZBR,if_neg hA,if_pos h4];rfl,hE1.trans hE5⟩)
 have hB:¬(t.travel.any fun l=>decide (l.length≠t.lands.length))=true:=by rw[h4];simp
 replace hg1:=hE5.get hg1;replace hE1:=hE1.trans hE5;refine zy ?_;refine ZAh rfl rfl rfl rfl rfl Bod.h rfl rfl (ZD1 (first:=[]) (capv:=[]) (p:=fun l=>l.any fun n=>decide (n < -1\/60<n)) (ZAM.ext (R:=ZCh) (fun x y=>ZCh.ext x y) hTv hE1) Bod.h (fun h3 hE3 _ _ x hx hI=>ZLj hI (hT.travelL x hx).1) hL2) (fun h6 h7 hE7=>?_) (fun h6 h7 hE7=>?_)
 ·refine zy ?_
  exact ZAB (ZAC rfl ⟨by rw[ZBR,if_neg hA,if_neg hB,if_pos h6];rfl,hE1.trans hE7⟩)
 refine zy ?_;exact ZAB (ZAC rfl ⟨by rw[ZBR,if_neg hA,if_neg hB,if_neg (by rw[h6];simp)];rfl,hE1.trans hE7⟩)
theorem ZON (s:List UInt8)(h:Heap):Sv Tryz.prog 192 [str s] h (RetP fun v h'=>v=str s/\Ext h h'):=by
 refine ZAF Tryz.func192 rfl (by rw[Tryz.ntmps192];rfl) ?_;show Wc Tryz.prog ⟨192,4,none⟩ _ _ _ _ _;refine zy ?_;exact ZAB (ZAC rfl ⟨rfl,Ext.refl _⟩)
theorem ZOa (s:List UInt8)(h:Heap):Sv Tryz.prog 193 [str s] h (RetP fun v h'=>v=i64 0/\Ext h h'):=by
 refine ZAF Tryz.func193 rfl (by rw[Tryz.ntmps193];rfl) ?_;show Wc Tryz.prog ⟨193,3,none⟩ _ _ _ _ _;refine zy ?_;exact ZAB (ZAC rfl ⟨rfl,Ext.refl _⟩)
theorem ZO4 {row:List Value}{v:ScV}{h:Heap}(hr:ScVR h row v):Sv Tryz.prog 196 [.agg ⟨row⟩] h (RetP fun r h'=>r=str v.name/\Ext h h'):=by
 obtain rfl:=hr;refine ZA5 fun hw=>?_;refine ZAF Tryz.func196 rfl (by rw[Tryz.ntmps196];rfl) ?_;show Wc Tryz.prog ⟨196,5,none⟩ _ _ _ _ _;refine zy ?_;refine ZAg rfl rfl rfl fun h1 hE1 hW1 hg1 hn1=>?_;generalize h.nx=b1 at *;refine zy ?_;exact ZAB (ZAC rfl ⟨rfl,hE1⟩)
theorem ZOS {row:List Value}{v:ScP}{h:Heap}(hr:ScPR h row v):Sv Tryz.prog 201 [.agg ⟨row⟩] h (RetP fun r h'=>r=str v.name/\Ext h h'):=by
 obtain⟨ap,cp,rfl,-⟩:=hr;refine ZA5 fun hw=>?_;refine ZAF Tryz.func201 rfl (by rw[Tryz.ntmps201];rfl) ?_;show Wc Tryz.prog ⟨201,5,none⟩ _ _ _ _ _;refine zy ?_;refine ZAg rfl rfl rfl fun h1 hE1 hW1 hg1 hn1=>?_;generalize h.nx=b1 at *;refine zy ?_;exact ZAB (ZAC rfl ⟨rfl,hE1⟩)
theorem ZOo {row:List Value}{v:ScPk}{h:Heap}(hr:ZDC h row v):Sv Tryz.prog 204 [.agg ⟨row⟩] h (RetP fun r h'=>r=str v.name/\Ext h h'):=by
 obtain rfl:=hr;refine ZA5 fun hw=>?_;refine ZAF Tryz.func204 rfl (by rw[Tryz.ntmps204];rfl) ?_;show Wc Tryz.prog ⟨204,5,none⟩ _ _ _ _ _;refine zy ?_;refine ZAg rfl rfl rfl fun h1 hE1 hW1 hg1 hn1=>?_;generalize h.nx=b1 at *;refine zy ?_;exact ZAB (ZAC rfl ⟨rfl,hE1⟩)
theorem ZVY (x0 x1 x2 x3 x4 x5 x6 x7 x8:Value) :
  Instr.fill ([(0,9)].toArray[·]?) (Value.agg ⟨[i64 0,.slice none 0 0,.slice none 0 0,.slice none 0 0,.slice none 0 0,.slice none 0 0,.slice none 0 0,.slice none 0 0,.slice none 0 0]⟩).cells [(0,.agg ⟨[x0,x1,x2,x3,x4,x5,x6,x7,x8]⟩)]=some ⟨[x0,x1,x2,x3,x4,x5,x6,x7,x8]⟩:=by kernel_rfl
set_option maxHeartbeats 1000000 in
theorem ZOe {tc:List Value}{t:ScT}{h:Heap}(ht:ZDk h tc t)(hT:t.Fit):Sv Tryz.prog 138 [.agg ⟨tc⟩] h (RetP fun v h'=>v=tup3 (ZCE t)/\Ext h h'):=by
 have ht0:=ht;obtain⟨al,cl,at',ct,a1,c1,a2,c2,a3,c3,a4,c4,a5,c5,a6,c6,rfl,m1,m2,m3,m4,m5,m6,m7,m8⟩:=ht;have f1:=hT.first;have f2:=hT.lands;have f3:=hT.venues;have f4:=hT.rights;have f5:=hT.prints;have f6:=hT.packs;have f7:=hT.keys;have f8:=hT.loans;refine ZA5 fun hw=>?_;refine ZAF Tryz.func138 rfl (by rw[Tryz.ntmps138];rfl) ?_;show Wc Tryz.prog ⟨138,155,none⟩ _ _ _ _ _;refine zy ?_;refine ZAg rfl rfl rfl fun h1 hE1 hW1 hg1 hn1=>?_;refine zz ?_;refine zE (ZDr rfl (ZVY _ _ _ _ _ _ _ _ _)) ?_;refine ZAK rfl rfl Zr.h Tsz.h rfl (fun _=>rfl) rfl rfl rfl fun h2 hE2 hW2 hg2 hn2=>?_;replace hE1:=hE1.trans hE2
 generalize h1.nx=b2 at *;clear hE2 hW2 hn2;refine zy ?_;refine ZAk rfl rfl rfl rfl rfl Bod.h rfl rfl (ZA9 _ _ _ _) (fun h3=>?_) (fun h3=>?_)
 ·refine zy ?_
  exact ZAB (ZAC rfl ⟨by rw[ZCE,if_pos (of_decide_eq_true h3)];rfl,hE1⟩)
 have hA:=of_decide_eq_false h3;refine zy ?_;refine ZAk rfl rfl rfl rfl rfl Bod.h rfl rfl (ZA9 _ _ _ _) (fun h4=>?_) (fun h4=>?_)
 ·refine zy ?_
  exact ZAB (ZAC rfl ⟨by rw[ZCE,if_neg hA,if_pos (by have:=of_decide_eq_true h4;omega)];rfl,hE1⟩)
 have h4':=of_decide_eq_false h4;refine zy ?_;refine ZAk rfl rfl rfl rfl rfl Bod.h rfl rfl (ZA9 _ _ _ _) (fun h5=>?_) (fun h5=>?_)
 ·refine zy ?_
  exact ZAB (ZAC rfl ⟨by rw[ZCE,if_neg hA,if_pos (by have:=of_decide_eq_true h5;omega)];rfl,hE1⟩)
 have h5':=of_decide_eq_false h5;refine zy ?_;refine zC (ZCl rfl rfl) (fun g0=>?_) (fun g0=>?_)
 ·refine zy ?_
  exact ZAB (ZAC rfl ⟨by rw[ZCE,if_neg hA,if_pos (by omega)];rfl,hE1⟩)
 refine zy ?_;refine zC (ZCl rfl rfl) (fun g1=>?_) (fun g1=>?_)
 ·refine zy ?_
  exact ZAB (ZAC rfl ⟨by rw[ZCE,if_neg hA,if_pos (by omega)];rfl,hE1⟩)
 refine zy ?_;refine zC (ZCl rfl rfl) (fun g2=>?_) (fun g2=>?_)
 ·refine zy ?_
  exact ZAB (ZAC rfl ⟨by rw[ZCE,if_neg hA,if_pos (by omega)];rfl,hE1⟩)
 refine zy ?_;refine zC (ZCl rfl rfl) (fun g3=>?_) (fun g3=>?_)
 ·refine zy ?_
  exact ZAB (ZAC rfl ⟨by rw[ZCE,if_neg hA,if_pos (by omega)];rfl,hE1⟩)
 refine zy ?_;refine zC (ZCl rfl rfl) (fun g4=>?_) (fun g4=>?_)
 ·refine zy ?_
  exact ZAB (ZAC rfl ⟨by rw[ZCE,if_neg hA,if_pos (by omega)];rfl,hE1⟩)
 have hB:¬((t.lands.length<1\/8<t.lands.length)\/(t.venues.length<1\/8<t.venues.length)\/30<t.rights.length\/12<t.prints.length\/12<t.packs.length\/30<t.keys.length\/30<t.loans.length):=by omega
 have e0:ZCE t=orE 2 (goNm id (fun _=>0) 0 [] t.lands) (if ZBR t≠0 then (2,0,ZBR t) else orE 3 (goNm ScV.name (ZBL t) 0 [] t.venues) (orE 4 (goEa (ZBJ t) 0 t.rights) (orE 5 (goNm ScP.name (ZAv t) 0 [] t.prints) (orE 6 (goNm ScPk.name ZBU 0 [] t.packs) (orE 7 (goEa (ZD9 t) 0 t.keys) (orE 8 (goEa (ZBZ t) 0 t.loans) (0,0,0))))))):=by rw[ZCE,if_neg hA,if_neg hB]
 clear h3 h4 h5 h4' h5' g0 g1 g2 g3 g4;refine zy ?_;refine zW (ZQ5 (wrong:=fun _=>0) (m1.at'.ext hE1) f2 hT.landsL Bod.h Bod.h (fun h3 _ x _=>ZON x h3) (f2:=[]) (fun h3 _ x _=>ZOa x h3)) fun h6 hE6=>?_;replace hg2:=hE6.get hg2;replace hE1:=hE1.trans hE6;clear hE6;refine zy ?_;refine zC (ZAo rfl rfl) (fun h7=>?_) (fun h7=>?_)
 ·refine zy ?_
  exact ZAB (ZAC rfl ⟨by rw[e0,ZHQ h7];rfl,hE1⟩)
 rw[ZII ZJP (Decidable.not_not.1 h7)] at e0;clear h7;refine zy ?_;refine zW (ZMS (ht0.ext hE1) hT) fun h6 hE6=>?_;replace hg2:=hE6.get hg2;replace hE1:=hE1.trans hE6;clear hE6;refine zy ?_;refine zC (ZAo rfl rfl) (fun h7=>?_) (fun h7=>?_)
 ·refine zy ?_
  exact ZAB (ZAC rfl ⟨by rw[e0,if_pos h7];rfl,hE1⟩)
 rw[if_neg h7] at e0;clear h7;refine zy ?_;refine zW (ZQZ (wrong:=ZBL t) (f2:=[.agg ⟨_⟩]) (ZAM.ext (R:=ScVR) (fun x y=>x) m3 hE1) f3 (fun x hx=>(hT.venuesF x hx).name) Bod.h Bod.h (fun h3 _ _ x _ hr=>ZO4 hr) (fun h3 hE3 _ x hx hr=>ZOd (ht0.ext (hE1.trans hE3)) hT hr)) fun h6 hE6=>?_;replace hg2:=hE6.get hg2;replace hE1:=hE1.trans hE6;clear hE6;refine zy ?_;refine zC (ZAo rfl rfl) (fun h7=>?_) (fun h7=>?_)
 ·refine zy ?_
  exact ZAB (ZAC rfl ⟨by rw[e0,ZHQ h7];rfl,hE1⟩)
 rw[ZII ZJP (Decidable.not_not.1 h7)] at e0;clear h7;refine zy ?_;refine zW (ZSe (wrong:=ZBJ t) (f2:=[.agg ⟨_⟩]) (ZAM.ext (R:=ScRR) (fun x y=>x) m4 hE1) f4 Bod.h (fun h3 hE3 _ x hx hr=>ZPM (ht0.ext (hE1.trans hE3)) hT hr (hT.rightsF x hx))) fun h6 hE6=>?_;replace hg2:=hE6.get hg2;replace hE1:=hE1.trans hE6;clear hE6;refine zy ?_;refine zC (ZAo rfl rfl) (fun h7=>?_) (fun h7=>?_)
 ·refine zy ?_
  exact ZAB (ZAC rfl ⟨by rw[e0,ZHQ h7];rfl,hE1⟩)
 rw[ZII ZNA (Decidable.not_not.1 h7)] at e0;clear h7;refine zy ?_;refine zW (ZQ2 (wrong:=ZAv t) (f2:=[.agg ⟨_⟩]) (ZAM.ext (R:=ScPR) (fun x y=>ScPR.ext x y) m5 hE1) f5 (fun x hx=>(hT.printsF x hx).name) Bod.h Bod.h (fun h3 _ _ x _ hr=>ZOS hr) (fun h3 hE3 _ x hx hr=>ZOw (ht0.ext (hE1.trans hE3)) hT hr (hT.printsF x hx))) fun h6 hE6=>?_;replace hg2:=hE6.get hg2;replace hE1:=hE1.trans hE6;clear hE6;refine zy ?_;refine zC (ZAo rfl rfl) (fun h7=>?_) (fun h7=>?_)
 ·refine zy ?_
  exact ZAB (ZAC rfl ⟨by rw[e0,ZHQ h7];rfl,hE1⟩)
 rw[ZII ZJP (Decidable.not_not.1 h7)] at e0;clear h7;refine zy ?_;refine zW (ZQ0 (wrong:=ZBU) (f2:=[.agg ⟨_⟩]) (ZAM.ext (R:=ZDC) (fun x y=>x) m6 hE1) f6 (fun x hx=>(hT.packsF x hx).name) Bod.h Bod.h (fun h3 _ _ x _ hr=>ZOo hr) (fun h3 hE3 _ x hx hr=>ZQE (ht0.ext (hE1.trans hE3)) hT hr (hT.packsF x hx))) fun h6 hE6=>?_;replace hg2:=hE6.get hg2;replace hE1:=hE1.trans hE6;clear hE6;refine zy ?_;refine zC (ZAo rfl rfl) (fun h7=>?_) (fun h7=>?_)
 ·refine zy ?_
  exact ZAB (ZAC rfl ⟨by rw[e0,ZHQ h7];rfl,hE1⟩)
 rw[ZII ZJP (Decidable.not_not.1 h7)] at e0;clear h7;refine zy ?_;refine zW (ZTD (wrong:=ZD9 t) (f2:=[.agg ⟨_⟩]) (ZAM.ext (R:=ScKR) (fun x y=>x) m7 hE1) f7 Bod.h (fun h3 hE3 _ x hx hr=>ZTN (ht0.ext (hE1.trans hE3)) hT hr)) fun h6 hE6=>?_;replace hg2:=hE6.get hg2;replace hE1:=hE1.trans hE6;clear hE6;refine zy ?_;refine zC (ZAo rfl rfl) (fun h7=>?_) (fun h7=>?_)
 ·refine zy ?_
  exact ZAB (ZAC rfl ⟨by rw[e0,ZHQ h7];rfl,hE1⟩)
 rw[ZII ZNA (Decidable.not_not.1 h7)] at e0;clear h7;refine zy ?_;refine zW (ZSk (wrong:=ZBZ t) (f2:=[.agg ⟨_⟩]) (ZAM.ext (R:=ScLR) (fun x y=>x) m8 hE1) f8 Bod.h (fun h3 hE3 _ x hx hr=>ZRF (ht0.ext (hE1.trans hE3)) hT hr)) fun h6 hE6=>?_;replace hg2:=hE6.get hg2;replace hE1:=hE1.trans hE6;clear hE6;refine zy ?_;refine zC (ZAo rfl rfl) (fun h7=>?_) (fun h7=>?_)
 ·refine zy ?_
  exact ZAB (ZAC rfl ⟨by rw[e0,ZHQ h7];rfl,hE1⟩)
 rw[ZII ZNA (Decidable.not_not.1 h7)] at e0;clear h7;refine zy ?_;exact ZAB (ZAC rfl ⟨by rw[e0];rfl,hE1⟩)
end Go.Dw
namespace Go.Dw
open Go Go.Dx Go.Proofs
set_option maxRecDepth 100000
abbrev xP60:List Nat:=[0,1,2,3,4,5,6,7,8,9,10,11,12,13,14,15,16,17,18,19,20,21,22]
abbrev xP62:List Nat:=[0,1,2,3,4,5,6,7,8,9,10]
set_option maxHeartbeats 8000000
theorem ZVi {h:Heap}{a:Option Addr}{t:ScT}(m3:ZAM 9 ScVR h a t.venues){v:Int}(h0:0<=v)(h1:v<t.venues.length):∃b o oa,a=some ⟨b,o,oa⟩/\ZAZ h b (o+v.toNat*9+1)=some (i64 (ZCD t v)):=by
 obtain⟨b,o,oa,e,row,hrow,hr⟩:=m3 v.toNat (by omega);obtain rfl:=hr;refine⟨b,o,oa,e,?_⟩;have:ZCD t v=t.venues[v.toNat].land:=by unfold ZCD;rw[List.getD_eq_getElem?_getD,List.getElem?_eq_getElem (by omega)];rfl
 rw[this];exact ZAQ hrow rfl
theorem ZPf {h:Heap}{a:Option Addr}{t:ScT}(m5:ZAM 7 ScPR h a t.prints){v:Int}(h0:0<=v)(h1:v<t.prints.length):∃b o oa,a=some ⟨b,o,oa⟩/\ZAZ h b (o+v.toNat*7+6)=some (i64 (ZG1 t v)):=by
 obtain⟨b,o,oa,e,row,hrow,ap,cp,hr,-⟩:=m5 v.toNat (by omega);subst hr;refine⟨b,o,oa,e,?_⟩;have:ZG1 t v=t.prints[v.toNat].land:=by unfold ZG1;rw[List.getD_eq_getElem?_getD,List.getElem?_eq_getElem (by omega)];rfl
 rw[this];exact ZAQ hrow rfl
theorem ZRl {t:ScT}(hO:ScOk t):t.travel.length=t.lands.length/\∀l∈t.travel,l.length=t.lands.length/\∀n∈l,-1<=n/\n<=60:=by
 have h:=hO.travel;unfold ZBR at h
 split at h
 ·cases h
 rename_i h1
 split at h
 ·cases h
 rename_i h2
 split at h
 ·cases h
 rename_i h3;refine⟨by omega,fun l hl=>⟨?_,fun n hn=>?_⟩⟩
 ·rw[Bool.not_eq_true,List.any_eq_false] at h2
  have:=h2 l hl
  simpa using this
 ·rw[Bool.not_eq_true,List.any_eq_false] at h3
  have h4:=h3 l hl;rw[Bool.not_eq_true,List.any_eq_false] at h4;have:=h4 n hn;simp at this;omega
theorem ZTw {h:Heap}{a:Option Addr}{t:ScT}(hO:ScOk t)(m2:ZAM 1 ZCh h a t.travel){i j:Int}(i0:0<=i)(i1:i<t.lands.length)(j0:0<=j)(j1:j<t.lands.length) :
  ∃b o oa,a=some ⟨b,o,oa⟩/\∃b' o' oa' c,ZAZ h b (o+i.toNat*1)=some (.slice (some ⟨b',o',oa'⟩) t.lands.length c)/\ZAZ h b' (o'+j.toNat*1)=some (i64 (trv t i j))/\i.toNat<t.travel.length /\ -1<=trv t i j/\trv t i j<=60:=by
 obtain⟨hl,hr⟩:=ZRl hO;have hi:i.toNat<t.travel.length:=by omega
 obtain⟨b,o,oa,e,row,hrow,ap,cp,rfl,hI⟩:=m2 i.toNat hi;have hm:=hr _ (List.getElem_mem hi);obtain⟨b',o',oa',rfl,hc⟩:=hI j.toNat (by omega);have hv:trv t i j=t.travel[i.toNat][j.toNat]'(by omega):=by
  unfold trv;rw[List.getD_eq_getElem?_getD (l:=t.travel),List.getElem?_eq_getElem hi,Option.getD_some,List.getD_eq_getElem?_getD,List.getElem?_eq_getElem (by omega),Option.getD_some]
 have hb:=hm.2 _ (List.getElem_mem (show j.toNat<t.travel[i.toNat].length by omega));rw[hv];exact⟨b,o,oa,e,b',o',oa',cp,by rw[<-hm.1];exact ZAQ (k:=0) hrow rfl,hc,hi,hb.1,hb.2⟩
theorem ZOH {t:ScT}(hO:ScOk t){v:Int}(h0:0<=v)(h1:v<t.venues.length):0<=ZCD t v/\ZCD t v<t.lands.length:=by
 have hv:v.toNat<t.venues.length:=by omega
 have:ZCD t v=t.venues[v.toNat].land:=by unfold ZCD;rw[List.getD_eq_getElem?_getD,List.getElem?_eq_getElem hv];rfl
 have h2:=hO.venues _ (List.getElem_mem hv);rw[this];unfold ZBL at h2
 split at h2
 ·cases h2
 rename_i h3;unfold ZFt at h3;omega
theorem ZUE {t:ScT}(hO:ScOk t){v:Int}(h0:0<=v)(h1:v<t.prints.length):0<=ZG1 t v/\ZG1 t v<t.lands.length:=by
 have hv:v.toNat<t.prints.length:=by omega
 have:ZG1 t v=t.prints[v.toNat].land:=by unfold ZG1;rw[List.getD_eq_getElem?_getD,List.getElem?_eq_getElem hv];rfl
 have h2:=hO.prints _ (List.getElem_mem hv);rw[this];unfold ZAv at h2
 split at h2
 ·cases h2
 split at h2
 ·cases h2
 split at h2
 ·cases h2
 split at h2
 ·rename_i h3;exact absurd h2 h3
 split at h2
 ·cases h2
 rename_i h3;unfold ZFt at h3;omega
theorem ZR5 {t:ScT}{x:ScL}(h:ZBZ t x=0):(0<=x.print/\x.print<t.prints.length)/\(0<=x.venue/\x.venue<t.venues.length)/\0<=x.days.lo/\x.days.lo<=x.days.hi/\x.days.hi<=80000:=by
 unfold ZBZ oddS at h
 split at h
 ·cases h
 split at h
 ·cases h
 split at h
 ·cases h
 omega
theorem ZIB {h0 h:Heap}{v:Value}{P:List ScL}(hF:ZAD h0 h v 229 4 (P.flatMap ZCe) P.length):∃a c,v=.slice a P.length c/\ZAM 4 ScLR h a P:=by
 rcases hF with ⟨rfl,_,h0⟩|⟨b,sp,op,rfl,hg,_⟩
 ·rw[h0]
  exact⟨none,0,rfl,fun i hi=>absurd hi (by omega)⟩
 ·refine⟨some ⟨b,0,sp⟩,P.length,rfl,fun i hi=>⟨b,0,sp,rfl,_,ZAV hg ?_,rfl⟩⟩
  rw[Nat.zero_add];exact ZBe (f:=ZCe) (k:=4) hi fun _ _=>rfl
def HsAt (h:Heap)(b:Nat)(t:ScT)(gr:List ScL):Prop:=∃row ag cg vw,ZDk h row t/\h.get b=some (.cells (row++[.slice ag gr.length cg,vw]) 227 false)/\ZAM 4 ScLR h ag gr
theorem ZSh {t:ScT}{home:Int}:∀{l:List ScL}{k:Nat}{at':Int}{fr:Option Int}(hk:k<l.length),goG t home none l=goG t at' fr (l.drop k)->goG t home none l=if ZQW t at' fr l[k]=true then none else goG t (ZCD t l[k].venue) (some l[k].days.hi) (l.drop (k+1)):=by
 intro l k at' fr hk h;rw[h,List.drop_eq_getElem_cons hk,goG]
theorem ZQt {b:Nat}{t:ScT}{gr:List ScL}{x:ScL}{lr:List Value}{h:Heap}(hH:HsAt h b t gr)(hO:ScOk t)(hgr:∀y∈gr,ZBZ t y=0)(hlen:gr.length<=30)(hx:ZBZ t x=0)(hr:ScLR h lr x) :
  Sv Tryz.prog 139 [.pointer (some ⟨b,0,none⟩),.agg ⟨lr⟩] h (RetP fun v h'=>v=.bool (ZFg t gr x)/\Ext h h'):=by
 obtain⟨row,ag,cg,vw,ht,hg,hG⟩:=hH;obtain⟨al,cl,at',ct,a1,c1,a2,c2,a3,c3,a4,c4,a5,c5,a6,c6,rfl,m1,m2,m3,m4,m5,m6,m7,m8⟩:=ht;replace hg:h.get b=some (.cells [i64 t.first,.slice al t.lands.length cl,.slice at' t.travel.length ct,.slice a1 t.venues.length c1,.slice a2 t.rights.length c2,.slice a3 t.prints.length c3,.slice a4 t.packs.length c4,.slice a5 t.keys.length c5,.slice a6 t.loans.length c6,.slice ag gr.length cg,vw] 227 false):=hg;obtain rfl:=hr;obtain⟨⟨x1,x2⟩,⟨x3,x4⟩,x5,x6,x7⟩:=ZR5 hx;obtain⟨y1,y2⟩:=ZUE hO x1 x2;have q1:=hO.lands;have q2:=hO.venues1;have q3:=hO.prints1;obtain⟨tl1,tl2⟩:=ZRl hO
 refine ZA5 fun hw=>?_;refine ZAF Tryz.func139 rfl (by rw[Tryz.ntmps139];rfl) ?_;show Wc Tryz.prog ⟨139,121,none⟩ _ _ _ _ _;refine zy ?_;refine ZAg rfl rfl rfl fun h1 hE1 hW1 hg1 hn1=>?_;replace hg:=hE1.get hg;replace m2:=ZAM.ext (R:=ZCh) (fun x y=>ZCh.ext x y) m2 hE1;replace m3:=ZAM.ext (R:=ScVR) (fun x _=>x) m3 hE1;replace m5:=ZAM.ext (R:=ScPR) (fun x y=>ScPR.ext x y) m5 hE1;replace hG:=ZAM.ext (R:=ScLR) (fun x _=>x) hG hE1;generalize h.nx=bx at *;refine zy ?_;refine ZCA rfl rfl Und.h Tsz.h Zr.h rfl rfl rfl rfl rfl fun h2 hE2 hW2 hg2 hn2=>?_;have hO2:Own h1 h2 [slI h1 (.slice (some ⟨h1.nx,0,none⟩) 1 1) 229 4 ([x].flatMap ZCe) 1]:=(Own.nil h1 h1).newSl hW1 (Nat.le_refl _) hE2 (ZAD.lit hg2 rfl (Nat.le_refl _))
 generalize (Value.slice (some ⟨h1.nx,0,none⟩) 1 1)=v0 at *;clear hg2 hn2;have hgH2:=hE2.get hg;refine zy ?_
 refine ZAO (fun (s:Nat×Value) m ds h'=>ds=[]/\s.1<=gr.length/\Ext h1 h'/\Own h1 h' [slI h1 s.2 229 4 ((x::(gr.take s.1).filter fun g=>decide (g.print=x.print)).flatMap ZCe) (x::(gr.take s.1).filter fun g=>decide (g.print=x.print)).length] ∧
   AllK m [(0,.pointer (some ⟨b,0,none⟩)),(3,.pointer (some ⟨bx,0,none⟩)),(5,s.2),(19,.slice ag gr.length cg),(20,i64 gr.length),(21,i64 s.1)]) (fun s=>gr.length-s.1) (0,v0) ?_ ?_
 ·exact⟨rfl,Nat.zero_le _,hE2,hO2,rfl,rfl,rfl,rfl,rfl,rfl,trivial⟩
 clear hO2 hE2 hW2;rintro⟨k,v⟩ m ds h3 ⟨rfl,hk,hE3,hO3,hall⟩;simp only at hk hO3 hall;have hg1':=hE3.get hg1;refine Wc.le ?_ (Le.kn hall);refine zy ?_;refine zC (ZAf rfl rfl) (fun h4=>?_) (fun h4=>?_)
 ·have hk':k<gr.length:=by simpa using h4
  have htk:gr.take (k+1)=gr.take k++[gr[k]]:=by rw[List.take_add_one,List.getElem?_eq_getElem hk'];rfl
  obtain⟨b',o,oa,rfl,row,hrow,hma⟩:=hG k hk';generalize hmk:gr[k]=y at *;obtain rfl:=hma;have hrow3:=hE3.row hrow;refine zy ?_;refine zD (A_ix Und.h Tsz.h rfl rfl) ?_;refine ZAK rfl rfl Zr.h Tsz.h rfl (fun _=>rfl) rfl rfl rfl fun h5 hE5 hW5 hg5 hn5=>?_;replace hE3:=hE3.trans hE5;replace hO3:=hO3.ext hE5;replace hg1':=hE5.get hg1';generalize h3.nx=by' at *
  refine zy ?_;refine zC (ZAs rfl rfl) (fun h6=>?_) (fun h6=>?_)
  ·have hfl:(gr.take (k+1)).filter (fun g=>decide (g.print=x.print))=(gr.take k).filter (fun g=>decide (g.print=x.print))++[y]:=by
    rw[htk,List.filter_append,List.filter_cons,if_pos (by simpa using h6)];rfl
   have hbd:((gr.take k).filter fun g=>decide (g.print=x.print)).length<=30:=by
    refine Nat.le_trans (List.length_filter_le _ _) ?_;rw[List.length_take];omega
   refine zy ?_;refine ZCA rfl rfl Und.h Tsz.h Zr.h rfl rfl rfl rfl rfl fun h7 hE7 hW7 hg7 hn7=>?_;refine ZBN (k:=1) (l:=ZCe y) hW1 (hE3.trans hE7) rfl rfl rfl rfl rfl Und.h inferInstance rfl rfl (hO3.ext hE7) (ZBK Und.h (by intro k;simp) (ZAV hg7 rfl)) rfl rfl (by simp only[List.length_cons];omega) (by simp only[List.length_cons];omega) fun v8 h8 hW8 hO8 hE8=>?_;refine zy ?_;refine⟨(k+1,v8),?_,rfl,hk',hE8,?_,rfl,rfl,rfl,rfl,rfl,rfl,trivial⟩
   ·show gr.length-(k+1)<gr.length-k;omega
   ·simp only
    rw[hfl]
    simpa [List.flatMap_append] using hO8
  ·have hfl:(gr.take (k+1)).filter (fun g=>decide (g.print=x.print))=(gr.take k).filter (fun g=>decide (g.print=x.print)):=by
    rw[htk,List.filter_append,List.filter_cons,if_neg (by simpa using h6)];simp
   refine zy ?_;refine⟨(k+1,v),?_,rfl,hk',hE3,?_,rfl,rfl,rfl,rfl,rfl,rfl,trivial⟩
   ·show gr.length-(k+1)<gr.length-k;omega
   ·simp only
    rw[hfl];exact hO3
 have hk2:k=gr.length:=by omega
 subst hk2;rw[List.take_length] at hO3;generalize hL:(x::gr.filter fun g=>decide (g.print=x.print))=L at *;have hLok:∀y∈L,ZBZ t y=0:=by
  rw[<-hL];intro y hy
  rcases List.mem_cons.1 hy with rfl|hy
  ·exact hx
  ·exact hgr y ((List.mem_filter.1 hy).1)
 have hLl:L.length<=31:=by
  rw[<-hL,List.length_cons];have:=List.length_filter_le (fun g:ScL=>decide (g.print=x.print)) gr;omega
 refine ZBt fun hw3=>?_;clear hall hk h4;refine zy ?_;refine zR (ZLg hO3.p1 (by omega) (fun p hp=>by have:=ZR5 (hLok p hp);omega)) ?_;rintro _ h4 ⟨rfl,Q,hp,hs,hF,hX⟩;have hQl:Q.length=L.length:=hp.length_eq;have hE4:=hO3.grows hX hE3 hW1;have hQok:∀y∈Q,ZBZ t y=0:=fun y hy=>hLok y (hp.subset hy);have hcan:ZFg t gr x=canG t (ZG1 t x.print) Q:=by
  unfold ZFg;refine ZPi ((ZNi.trans (List.Perm.of_eq hL)).trans hp.symm) ZPG hs fun y hy=>?_;have:=ZR5 (hLok y (by rw[<-hL];exact ZNi.subset hy));omega
 rw[hcan];rw[<-hQl] at hF;obtain⟨aQ,cQ,rfl,hQ⟩:=ZIB hF;have k1:=hE4.get hg;have k2:=hE4.get hg1;clear hO3 hE3 hg1' hp hs hF hX;have n2:=ZAM.ext (R:=ZCh) (fun x y=>ZCh.ext x y) m2 hE4;have n3:=ZAM.ext (R:=ScVR) (fun x _=>x) m3 hE4;have n5:=ZAM.ext (R:=ScPR) (fun x y=>ScPR.ext x y) m5 hE4;obtain⟨bp,op,oap,rfl,hcp⟩:=ZPf n5 x1 x2;generalize hhm:ZG1 t x.print=hm at *;refine zy ?_;refine ZAJ hmix [0,1,3,7,15,31,0,64,255,511,1023,2047,4095] xP62 (some 11) [([],(some 12)),([],none)] (by kernel_rfl) (by kernel_rfl) ?_;refine z_m ?_;refine z_q ?_;refine z_f ?_;refine z_f ?_;refine z_f ?_;refine z_l ?_;refine z_f ?_;refine z_l ?_;refine ZAE rfl rfl rfl rfl rfl (fun _=>ZAL (k:=x.print.toNat) Und.h Tsz.h rfl rfl (by omega) (by omega)) ?_;refine z_f ?_;refine z_l ?_
 refine ZAH xP62 (by kernel_rfl) rfl (ZAA rfl) rfl nb rfl (ZBW rfl rfl (ZAS rfl) ?_);refine ZAH [0,1,2,3,4,5,6,7,8,9,10,11] (by kernel_rfl) rfl (ZAA rfl) rfl nb rfl (ZBW rfl rfl (ZAS rfl) ?_);refine ZAP (ZAA rfl) nb' ?_;refine zy ?_
 refine ZAO (fun (s:Nat×Int×Int) m ds h'=>ds=[]/\s.1<=Q.length/\Ext h1 h'/\ZAM 4 ScLR h' aQ Q/\(0<=s.2.1/\s.2.1<t.lands.length)/\(-1<=s.2.2/\s.2.2<=80000)/\goG t hm none Q=goG t s.2.1 (if s.1=0 then none else some s.2.2) (Q.drop s.1) ∧
   AllK m [(0,.pointer (some ⟨b,0,none⟩)),(3,.pointer (some ⟨bx,0,none⟩)),(8,i64 s.2.1),(9,i64 s.2.2),(48,.slice aQ Q.length cQ),(49,i64 Q.length),(50,i64 s.1)]) (fun s=>Q.length-s.1) (0,hm,-1) ?_ ?_
 ·exact⟨rfl,Nat.zero_le _,hE4,hQ,⟨y1,y2⟩,⟨show (-1:Int) <= -1 by decide,show (-1:Int)<=80000 by decide⟩,rfl,rfl,rfl,rfl,rfl,rfl,rfl,rfl,trivial⟩
 clear n2 n3 n5 k1 k2 hQ hcp;clear hE4;rintro⟨k,at1,fr⟩ m ds h5 ⟨rfl,hk,hE5,hQ,⟨z1,z2⟩,⟨z3,z4⟩,hgo,hall⟩;refine ZDF fun hw5=>?_;simp only at hk z1 z2 z3 z4 hgo hall;have k1:=hE5.get hg;have k2:=hE5.get hg1;have n2:=ZAM.ext (R:=ZCh) (fun x y=>ZCh.ext x y) m2 hE5;have n3:=ZAM.ext (R:=ScVR) (fun x _=>x) m3 hE5;refine Wc.le ?_ (Le.kn hall);refine zy ?_;refine zC (ZAf rfl rfl) (fun h6=>?_) (fun h6=>?_)
 ·have hk':k<Q.length:=by simpa using h6
  replace hgo:=ZSh hk' hgo;have hyk:=hQok _ (List.getElem_mem hk');obtain⟨bq,oq,oaq,rfl,row,hrow,hma⟩:=hQ k hk';generalize hmk:Q[k]=y at *;obtain rfl:=hma;obtain⟨⟨w1,w2⟩,⟨w3,w4⟩,w5,w6,w7⟩:=ZR5 hyk;obtain⟨w8,w9⟩:=ZOH hO w3 w4;refine zy ?_;refine zD (A_ix Und.h Tsz.h rfl rfl) ?_;refine ZBV rfl rfl Zr.h fun h61 hE61 hW61 hg61 hn61=>?_;refine zy ?_;refine ZAq rfl Tsz.h rfl rfl hg61 rfl rfl rfl fun h7 hU7=>?_;have hE7:=hU7.ext hE61 hw5 (Nat.le_refl _);have hg7:=hU7.at';clear hU7 hg61 hn61 hW61 hE61;replace hE5:=hE5.trans hE7;replace k1:=hE7.get k1;replace k2:=hE7.get k2;replace n2:=ZAM.ext (R:=ZCh) (fun x y=>ZCh.ext x y) n2 hE7
  replace n3:=ZAM.ext (R:=ScVR) (fun x _=>x) n3 hE7;replace hQ:=ZAM.ext (R:=ScLR) (fun x _=>x) hQ hE7;generalize h5.nx=by' at *
  obtain⟨bv,ov,oav,rfl,hcv⟩:=ZVi n3 w3 w4;obtain⟨bt,ot,oat,rfl,bt',ot',oat',ct',hct,hct',u1,u2,u3⟩:=ZTw hO n2 z1 z2 w8 w9;generalize hvl:ZCD t y.venue=vl at *;generalize htr:trv t at1 vl=n at *;have hst:ZQW t at1 (if k=0 then none else some fr) y=(decide (n<0) || decide (0<k/\y.days.lo-fr<=n)):=by
   unfold ZQW;rw[hvl,htr]
   by_cases c:k=0
   ·simp[c]
   ·rw[if_neg c];simp[Nat.pos_of_ne_zero c]
  rw[hst] at hgo;refine zy ?_;refine ZAJ hmix [0,1,3,7,15,31,0,64,255,511,1023,2047] xP62 (some 11) [([],none)] (by kernel_rfl) (by kernel_rfl) ?_;refine z_m ?_;refine z_q ?_;refine z_f ?_;refine z_f ?_;refine z_f ?_;refine z_l ?_;refine z_f ?_;refine z_l ?_;refine ZAE rfl rfl rfl rfl rfl (fun _=>ZAL (k:=y.venue.toNat) Und.h Tsz.h rfl rfl (by omega) (by omega)) ?_;refine z_f ?_;refine z_l ?_;refine ZAH xP62 (by kernel_rfl) rfl (ZAA rfl) rfl nb rfl (ZBW rfl rfl (ZAS rfl) ?_);refine ZAP (ZAA rfl) nb' ?_;refine zy ?_;refine zD (ZAL (k:=at1.toNat) Und.h Tsz.h rfl rfl (by omega) (by omega)) ?_;refine zD (ZAL (k:=vl.toNat) Und.h Tsz.h rfl rfl (by omega) (by omega)) ?_
  refine zC (ZAf rfl rfl) (fun h8=>?_) (fun h8=>?_)
  ·refine zy ?_
   refine ZAB (ZAC rfl ⟨?_,hE1.trans hE5⟩);rw[decide_eq_true h8,Bool.true_or,if_pos rfl] at hgo;unfold canG;rw[hgo];rfl
  refine zy ?_;refine zC (ZCl rfl rfl) (fun h9=>?_) (fun h9=>?_)
  ·refine zy ?_
   refine zC (ZQr rfl rfl) (fun h10=>?_) (fun h10=>?_)
   ·refine zy ?_
    refine ZAB (ZAC rfl ⟨?_,hE1.trans hE5⟩);rw[decide_eq_true (show 0<k/\y.days.lo-fr<=n from⟨by omega,h10⟩),Bool.or_true,if_pos rfl] at hgo;unfold canG;rw[hgo];rfl
   rw[decide_eq_false h8,decide_eq_false (fun e=>h10 e.2),Bool.or_false,if_neg (by decide)] at hgo;refine zy ?_;refine ZAJ hmix [0,0,2,6,1,31] [0,1,2,3] (some 4) [([],(some 5)),([],none)] (by kernel_rfl) (by kernel_rfl) ?_;refine z_m ?_;refine z_f ?_;refine z_f ?_;refine z_l ?_;refine ZAH [0] (by kernel_rfl) rfl (ZAA rfl) rfl nb rfl (ZBW rfl rfl (ZAS rfl) ?_);refine ZAH [0,1,2,3,4] (by kernel_rfl) rfl (by refine t_l 3 ?_;refine t_f 2 ?_;refine t_f 1 ?_;exact ZAA rfl) rfl nb rfl (ZBW rfl rfl (ZAS rfl) ?_);refine ZAP (ZAA rfl) nb' ?_;refine zy ?_;refine⟨(k+1,vl,y.days.hi),?_,rfl,hk',hE5,hQ,⟨w8,w9⟩,⟨by show -1<=y.days.hi;omega,w7⟩,hgo,rfl,rfl,rfl,rfl,rfl,rfl,rfl,trivial⟩
   show Q.length-(k+1)<Q.length-k;omega
  ·rw[decide_eq_false h8,decide_eq_false (fun e=>h9 (by omega)),Bool.or_false,if_neg (by decide)] at hgo
   refine zy ?_;refine ZAJ hmix [0,0,2,6,1,31] [0,1,2,3] (some 4) [([],(some 5)),([],none)] (by kernel_rfl) (by kernel_rfl) ?_;refine z_m ?_;refine z_f ?_;refine z_f ?_;refine z_l ?_;refine ZAH [0] (by kernel_rfl) rfl (ZAA rfl) rfl nb rfl (ZBW rfl rfl (ZAS rfl) ?_);refine ZAH [0,1,2,3,4] (by kernel_rfl) rfl (by refine t_l 3 ?_;refine t_f 2 ?_;refine t_f 1 ?_;exact ZAA rfl) rfl nb rfl (ZBW rfl rfl (ZAS rfl) ?_);refine ZAP (ZAA rfl) nb' ?_;refine zy ?_;refine⟨(k+1,vl,y.days.hi),?_,rfl,hk',hE5,hQ,⟨w8,w9⟩,⟨by show -1<=y.days.hi;omega,w7⟩,hgo,rfl,rfl,rfl,rfl,rfl,rfl,rfl,trivial⟩
   show Q.length-(k+1)<Q.length-k;omega
 have hk2:k=Q.length:=by omega
 rw[hk2,List.drop_length,goG] at hgo;have hfin:canG t hm Q=decide (0<=trv t at1 hm):=by unfold canG;rw[hgo]
 rw[hfin];have n5:=ZAM.ext (R:=ScPR) (fun x y=>ScPR.ext x y) m5 hE5;obtain⟨bp',op',oap',e',hcp⟩:=ZPf n5 x1 x2;cases e';rw[hhm] at hcp;obtain⟨bt,ot,oat,rfl,bt',ot',oat',ct',hct,hct',u1,u2,u3⟩:=ZTw hO n2 z1 z2 y1 y2;generalize htr:trv t at1 hm=n at *;refine zy ?_;refine ZAJ hmix [0,1,3,7,15,31,0,127,255,0,512,1536,3584,7680,15872,0,32768,130560,261632,523776,1048575,2097151,4194303,8388607] xP60 (some 23) [([],none)] (by kernel_rfl) (by kernel_rfl) ?_;refine z_m ?_;refine z_q ?_;refine z_f ?_;refine z_f ?_;refine z_f ?_;refine z_l ?_;refine z_m ?_;refine ZAE rfl rfl rfl rfl rfl (fun _=>ZAL (k:=at1.toNat) Und.h Tsz.h rfl rfl (by omega) (by omega)) ?_;refine z_l ?_;refine z_m ?_;refine z_q ?_;refine z_f ?_;refine z_f ?_;refine z_f ?_;refine z_l ?_;refine z_f ?_;refine z_l ?_;refine ZAE rfl rfl rfl rfl rfl (fun _=>ZAL (k:=x.print.toNat) Und.h Tsz.h rfl rfl (by omega) (by omega)) ?_;refine z_f ?_;refine z_l ?_;refine ZAE rfl rfl rfl rfl rfl (fun _=>ZAL (k:=hm.toNat) Und.h Tsz.h rfl rfl (by omega) (by omega)) ?_;refine z_l ?_;refine ZAE rfl rfl rfl rfl rfl (fun _=>ZDh rfl rfl) ?_
 refine ZAH xP60 (by kernel_rfl) rfl (ZAA rfl) rfl nb rfl (ZBW rfl rfl (ZAS rfl) ?_);refine ZAP (ZAA rfl) nb' ?_;refine zy ?_;exact ZAB (ZAC rfl ⟨rfl,hE1.trans hE5⟩)
end Go.Dw
namespace Go.Dw
open Go Go.Dx Go.Proofs
set_option maxRecDepth 100000
set_option maxHeartbeats 8000000
def lpre (t:ScT)(k:Nat):List ScL×List Int:=(t.loans.take k).foldl (fun s x=>if ZFg t s.1 x=true then (s.1++[x],s.2++[0]) else (s.1,s.2++[210])) ([],[])
theorem ZNu (t:ScT):lpre t t.loans.length=ZBq t:=by unfold lpre ZBq;rw[List.take_length]
theorem ZK4 {t:ScT}{k:Nat}(hk:k<t.loans.length):lpre t (k+1)=if ZFg t (lpre t k).1 t.loans[k]=true then ((lpre t k).1++[t.loans[k]],(lpre t k).2++[0]) else ((lpre t k).1,(lpre t k).2++[210]):=by
 unfold lpre;have:t.loans.take (k+1)=t.loans.take k++[t.loans[k]]:=by rw[List.take_add_one,List.getElem?_eq_getElem hk];rfl
 rw[this,List.foldl_append];rfl
theorem ZMR {t:ScT}(hO:ScOk t):∀{k:Nat},k<=t.loans.length->(∀y∈(lpre t k).1,ZBZ t y=0)/\(lpre t k).1.length<=k/\(lpre t k).2.length=k
 | 0,_=>⟨(fun _ h=>nomatch h),Nat.le_refl _,rfl⟩
 | k+1,hk=>by
  obtain⟨h1,h2,h3⟩:=ZMR hO (k:=k) (by omega);rw[ZK4 (by omega)]
  split
  ·refine⟨fun y hy=>?_,by simp;omega,by simp;omega⟩
   rcases List.mem_append.1 hy with g|g
   ·exact h1 y g
   ·rw[List.mem_singleton.1 g];exact hO.loans _ (List.getElem_mem _)
  ·exact⟨h1,Nat.le_succ_of_le h2,by simp;omega⟩
def ZDp (h:Heap)(b:Nat)(t:ScT):Prop:=∃row ag cg aw cw,ZDk h row t/\h.get b=some (.cells (row++[.slice ag (ZBq t).1.length cg,.slice aw (ZBq t).2.length cw]) 227 false)/\ZAM 4 ScLR h ag (ZBq t).1/\ZC9 h aw (ZBq t).2
theorem ZDp.ext {h h':Heap}{b:Nat}{t:ScT}(a:ZDp h b t)(he:Ext h h'):ZDp h' b t:=by
 obtain⟨row,ag,cg,aw,cw,h1,h2,h3,h4⟩:=a;exact⟨row,ag,cg,aw,cw,h1.ext he,he.get h2,ZAM.ext (R:=ScLR) (fun x _=>x) h3 he,h4.ext he⟩
def ZVV (t:ScT)(h:Heap)(v:Value)(h':Heap):Prop:=Ext h h'/\((¬ZEV t=0/\v=.tuple ⟨[.pointer none,i64 (ZEV t)]⟩)\/(ZEV t=0/\∃b,v=.tuple ⟨[.pointer (some ⟨b,0,none⟩),i64 0]⟩/\ZDp h' b t))
theorem ZVo (x0 x1 x2 x3 x4 x5 x6 x7 x8:Value) :
  Instr.fill ([(0,9),(9,1),(10,1)].toArray[·]?) (Value.agg ⟨[i64 0,.slice none 0 0,.slice none 0 0,.slice none 0 0,.slice none 0 0,.slice none 0 0,.slice none 0 0,.slice none 0 0,.slice none 0 0,.slice none 0 0,.slice none 0 0]⟩).cells [(0,.agg ⟨[x0,x1,x2,x3,x4,x5,x6,x7,x8]⟩)]=some ⟨[x0,x1,x2,x3,x4,x5,x6,x7,x8,.slice none 0 0,.slice none 0 0]⟩:=by kernel_rfl
set_option maxHeartbeats 1000000 in
theorem ZQS {tc:List Value}{t:ScT}{h:Heap}(ht:ZDk h tc t)(hT:t.Fit):Sv Tryz.prog 90 [.agg ⟨tc⟩] h (RetP (ZVV t h)):=by
 have ht0:=ht;obtain⟨al,cl,at',ct,a1,c1,a2,c2,a3,c3,a4,c4,a5,c5,a6,c6,rfl,-,-,-,-,-,-,-,m8⟩:=ht;refine ZA5 fun hw=>?_;refine ZAF Tryz.func90 rfl (by rw[Tryz.ntmps90];rfl) ?_;show Wc Tryz.prog ⟨90,63,none⟩ _ _ _ _ _;refine zy ?_;refine ZAg rfl rfl rfl fun h1 hE1 hW1 hg1 hn1=>?_;generalize h.nx=b1 at *;refine zy ?_;refine zW (ZOe (ht0.ext hE1) hT) fun h2 hE2=>?_;replace hg1:=hE2.get hg1;replace hE1:=hE1.trans hE2;refine zy ?_;refine zC (ZAo rfl rfl) (fun h3=>?_) (fun h3=>?_)
 ·refine zy ?_
  exact ZAB (ZAC rfl ⟨hE1,.inl ⟨h3,rfl⟩⟩)
 replace h3:ZEV t=0:=Decidable.not_not.1 h3;have hO:=ZSy h3;have hll:=hO.loans1;refine ZBt fun hw2=>?_;clear hW1 hE2 hn1;clear h1;replace m8:=ZAM.ext (R:=ScLR) (fun x _=>x) m8 hE1;replace ht0:=ht0.ext hE1;refine zz ?_;refine zE (ZDr rfl (ZVY _ _ _ _ _ _ _ _ _)) ?_;refine zE (ZDr rfl (ZVo _ _ _ _ _ _ _ _ _)) ?_;refine ZAg rfl rfl rfl fun h4 hE4 hW4 hg4 hn4=>?_;have hO4:=(((Own.nil h2 h2).nilSl 23 1).nilSl 229 4).newCe hw2 (Nat.le_refl _) hE4 hg4 (Nat.le_refl _);generalize h2.nx=bH at *;replace hg1:=hE4.get hg1;clear hg4 hn4;refine zy ?_
 refine ZAO (fun (s:Nat×Value×Value) m ds h'=>ds=[]/\s.1<=t.loans.length/\Ext h2 h'/\Own h2 h' [ceI bH [i64 t.first,.slice al t.lands.length cl,.slice at' t.travel.length ct,.slice a1 t.venues.length c1,.slice a2 t.rights.length c2,.slice a3 t.prints.length c3,.slice a4 t.packs.length c4,.slice a5 t.keys.length c5,.slice a6 t.loans.length c6,s.2.1,s.2.2] 227 false,slI h2 s.2.1 229 4 ((lpre t s.1).1.flatMap ZCe) (lpre t s.1).1.length,slI h2 s.2.2 23 1 ((lpre t s.1).2.map i64) (lpre t s.1).2.length] ∧
   AllK m [(7,.pointer (some ⟨bH,0,none⟩)),(24,.slice a6 t.loans.length c6),(25,i64 t.loans.length),(26,i64 s.1)]) (fun s=>t.loans.length-s.1) (0,.slice none 0 0,.slice none 0 0) ?_ ?_
 ·exact⟨rfl,Nat.zero_le _,hE4,hO4,rfl,rfl,rfl,rfl,trivial⟩
 clear hO4 hE4 hW4 hg1;clear h4;rintro⟨k,vg,vw⟩ m ds h5 ⟨rfl,hk,hE5,hO5,hall⟩;simp only at hk hO5 hall;obtain⟨p1,p2,p3⟩:=ZMR hO hk;refine ZDF fun hw5=>?_;refine Wc.le ?_ (Le.kn hall);refine zy ?_;refine zC (ZAf rfl rfl) (fun h6=>?_) (fun h6=>?_)
 ·have hk':k<t.loans.length:=by simpa using h6
  have hls:=ZK4 hk';have hxok:=hO.loans _ (List.getElem_mem hk');obtain⟨b',o,oa,rfl,row,hrow,hma⟩:=m8 k hk';generalize hmk:t.loans[k]=x at *;obtain rfl:=hma;have hrow5:=hE5.row hrow;generalize hG:(lpre t k).1=G at *;generalize hW:(lpre t k).2=W at *;refine zy ?_;refine zD (A_ix Und.h Tsz.h rfl rfl) ?_;refine ZAK rfl rfl Zr.h Tsz.h rfl (fun _=>rfl) rfl rfl rfl fun h7 hE7 hW7 hg7 hn7=>?_;replace hE5:=hE5.trans hE7;replace hO5:=hO5.ext hE7;generalize h5.nx=bl at *;obtain⟨ag,cg,rfl,hGr⟩:=ZIB (show ZAD h2 h7 vg 229 4 _ _ from hO5.at 1 rfl);refine zy ?_;refine ZAh rfl rfl rfl rfl rfl Bod.h rfl rfl (ZQt ⟨_,ag,cg,vw,ht0.ext hE5,hO5.p1,hGr⟩ hO p1 (by omega) hxok rfl) (fun h8 h9 hE9=>?_) (fun h8 h9 hE9=>?_)
  ·rw[if_pos h8] at hls
   have hgl:(G++[x]).length=G.length+1:=by simp
   have hgm:(G++[x]).flatMap ZCe=G.flatMap ZCe++ZCe x:=by simp[List.flatMap_append]
   have hwl:(W++[(0:Int)]).length=W.length+1:=by simp
   have hwm:(W++[(0:Int)]).map i64=W.map i64++[i64 0]:=by simp
   replace hE5:=hE5.trans hE9;replace hO5:=hO5.ext hE9;replace hg7:=hE9.get hg7;refine ZBt fun hw9=>?_;have hEa:Ext h9 (rsv (Heap.add h9 (.cells (ZCe x) 229 false))):=(Ext.add hw9 _).trans (Ext.rsv _);have hO9:=hO5.pick 1 rfl;have hne:=hO9.ne hw9 (Nat.le_succ h9.nx);have hn9:=hE5.2.1;have kH:h9.get bH=_:=hO5.p1;have kHa:=hEa.get kH;refine zy ?_;refine ZAJ hmix [0,0,0,4,12,28,0,64,252,0,512,1536,3584,0,16380,32765,65533,131069,262143,524287,1048575] [0,1,2,3,4,5,6,7,9,10,11,12,13] (some 8) [([],(some 14)),([15,16],(some 17)),([18,19],(some 20)),([],none)] (by kernel_rfl) (by kernel_rfl) ?_;refine z_m ?_;refine z_m ?_;refine z_m ?_;refine z_q ?_;refine z_f ?_;refine z_l ?_;refine z_r ?_
   refine ZCX (nk:=.sl _ _) rfl rfl rfl rfl rfl (fun _ _ hs=>N_bs hs Und.h Tsz.h Zr.h rfl rfl rfl rfl rfl) ?_;refine z_m ?_;refine z_q ?_;refine z_f ?_;refine z_l ?_;refine ZCX (nk:=.sl _ _) rfl rfl rfl rfl rfl (fun _ _ hs=>N_bs hs Und.h Tsz.h Zr.h rfl rfl rfl rfl rfl) ?_;refine ZAH (h1:=(rsv (Heap.add h9 _))) [2,3,4,5,6,7] (by kernel_rfl) rfl (ZAA rfl) rfl rfl rfl (ZA6 (ZOx (n1:=h9.nx+1) (by':=32) (sz:=4) (k:=1) (n:=G.length) (l:=ZCe x) rfl hw2 (hE5.trans hEa) rfl rfl rfl rfl Und.h inferInstance rfl rfl (hO9.ext hEa) ((ZAD.lit (h0:=h2) (n:=1) (sz:=4) ((Ext.rsv _).get Heap.get_add_same) rfl hn9).src (dd:=.slice 229) Und.h (by intro k;simp)) rfl rfl (by omega) (by omega) hne (Nat.lt_succ_self _) (fun v12 h12 hO13 hE12 hne12 hn12 hw12=>?_)))
   have hU12:=Upd.mk' h12 (h9.nx+1) (.cells [i64 0] 23 false);have hO13':=hO13.other (.cells [i64 0] 23 false) hne12;have hE12':=hU12.ext hE12 hw2 (Nat.le_succ_of_le hn9);rw[<-hgl,<-hgm] at hO13';have hO14:=hO13'.unpick 1 (Nat.le_of_ble_eq_true rfl);have kH12:h12.get bH=_:=hO13.p2;have kH13:(h12.set (h9.nx+1) (.cells [i64 0] 23 false)).get bH=_:=hO13'.p2;refine ZAH (h1:=(h12.set (h9.nx+1) (.cells [i64 0] 23 false))) [2,3,4,5,6,7,8,9,10,11,12,13] (by kernel_rfl) rfl (by refine ZHa (i:=13) (nk:=.sl _ _) rfl rfl rfl rfl rfl (fun _ _ hs=>N_bs hs Und.h Tsz.h Zr.h rfl rfl rfl rfl rfl) rfl ?_;refine t_l 12 ?_;refine t_f 11 ?_;refine t_q 10 ?_;refine t_m 9 ?_;refine t_m 1 ?_;refine t_m 0 ?_;exact ZAA rfl) rfl rfl rfl (ZA6 (ZDa (by':=8) (sz:=1) (k:=1) (n:=W.length) (l:=[i64 0]) rfl hw2 hE12' rfl rfl rfl rfl Und.h inferInstance rfl rfl (hO14.pick 2 rfl) ((ZAD.lit (h0:=h2) (n:=1) (sz:=1) hU12.at' rfl (Nat.le_succ_of_le hn9)).src (dd:=.slice 23) Und.h (by intro k;simp)) rfl rfl (by omega) (by omega) (fun v14 h14 hO15 hE14 hw14=>?_)))
   rw[<-hwl,<-hwm] at hO15;have hO16:=hO15.unpick 2 (Nat.le_of_ble_eq_true rfl);obtain⟨bu,spu,rfl⟩:=ZJc (show ZAD h2 h14 v12 229 4 _ _ from hO16.at 1 rfl) (by rw[hgl];exact Nat.succ_pos _);obtain⟨bv,spv,rfl⟩:=ZJc (show ZAD h2 h14 v14 23 1 _ _ from hO16.at 2 rfl) (by rw[hwl];exact Nat.succ_pos _);refine z_q ?_;refine z_f ?_;refine ZAH (h1:=h14) [0,2,3,4,5,6,7,8,9,10,11,12,13,14,15,16] (by kernel_rfl) rfl (by refine t_m 1 ?_;refine t_m 0 ?_;exact ZAA rfl) rfl rfl rfl (ZA6 (ZEH rfl hw2 hE14 rfl Tsz.h rfl rfl hO16 rfl rfl rfl (fun h15 hO17 hE15 hw15=>?_)));refine z_q ?_;refine z_f ?_;refine ZAH (h1:=h15) [0,1,2,3,4,5,6,7,8,9,10,11,12,13,14,15,16,17,18,19] (by kernel_rfl) rfl (by refine t_m 1 ?_;exact ZAA rfl) rfl rfl rfl (ZA6 (ZEH rfl hw2 hE15 rfl Tsz.h rfl rfl hO17 rfl rfl rfl (fun h16 hO18 hE16 hw16=>?_)))
   refine ZAP (h1:=h16) (ZAA rfl) rfl ?_;refine zy ?_;refine⟨(k+1,.slice (some ⟨bu,0,spu⟩) (G++[x]).length (G++[x]).length,.slice (some ⟨bv,0,spv⟩) (W++[(0:Int)]).length (W++[(0:Int)]).length),?_,rfl,hk',hE16,?_,rfl,rfl,rfl,rfl,trivial⟩
   ·show t.loans.length-(k+1)<t.loans.length-k;omega
   ·simp only[hls];exact hO18
  ·rw[if_neg (by rw[h8];simp)] at hls
   have hwl:(W++[(210:Int)]).length=W.length+1:=by simp
   have hwm:(W++[(210:Int)]).map i64=W.map i64++[i64 210]:=by simp
   replace hE5:=hE5.trans hE9;replace hO5:=hO5.ext hE9;have kH:h9.get bH=_:=hO5.p1;refine zy ?_;refine ZCA rfl rfl Und.h Tsz.h Zr.h rfl rfl rfl rfl rfl fun h12 hE12 hW12 hg12 hn12=>?_;refine ZBN (k:=1) (l:=[i64 210]) hw2 (hE5.trans hE12) rfl rfl rfl rfl rfl Und.h inferInstance rfl rfl ((hO5.ext hE12).pick 2 rfl) (ZBK Und.h (by intro k;simp) (ZAV hg12 rfl)) rfl rfl (by omega) (by omega) fun v13 h13 hW13 hO13 hE13=>?_;rw[<-hwl,<-hwm] at hO13;have hO16:=hO13.unpick 2 (Nat.le_of_ble_eq_true rfl);obtain⟨bv,spv,rfl⟩:=ZJc (show ZAD h2 h13 v13 23 1 _ _ from hO16.at 2 rfl) (by rw[hwl];exact Nat.succ_pos _)
   refine zy ?_;refine ZLV hw2 hE13 rfl Tsz.h rfl rfl hO16 rfl rfl rfl fun h16 hW16 hO18 hE16=>?_;refine zy ?_;refine⟨(k+1,.slice ag G.length cg,.slice (some ⟨bv,0,spv⟩) (W++[(210:Int)]).length (W++[(210:Int)]).length),?_,rfl,hk',hE16,?_,rfl,rfl,rfl,rfl,trivial⟩
   ·show t.loans.length-(k+1)<t.loans.length-k;omega
   ·simp only[hls];exact hO18
 have hk2:k=t.loans.length:=by omega
 subst hk2;rw[ZNu] at hO5;obtain⟨ag,cg,rfl,hGr⟩:=ZIB (show ZAD h2 h5 vg 229 4 _ _ from hO5.at 1 rfl);obtain⟨aw,rfl,-,hWr⟩:=ZAD.list (enc:=i64) (show ZAD h2 h5 vw 23 1 _ _ from hO5.at 2 rfl);refine zy ?_;exact ZAB (ZAC rfl ⟨hE1.trans hE5,.inr ⟨h3,bH,rfl,_,ag,cg,aw,_,ht0.ext hE5,hO5.p1,hGr,hWr⟩⟩)
end Go.Dw
namespace Go.Dw
open Go Go.Dx Go.Proofs
set_option maxRecDepth 100000
abbrev xPA2:List Nat:=[0,0,0,4,12,28,60,124,0,256,1020,2044,4095,8191,16383]
abbrev xPA3:List Nat:=[0,0,2,6,14,30,62,0,128,384,1022,0,2048,6144,14336,30720,63488,0,131072,393216,917504,1966080,4063232,8386560,16777214,33554431,67108863,134217727]
abbrev xPA4:List Nat:=[0,1,0,4,12,28,60,124,252,508,1023,2047]
abbrev xPA5:List Nat:=[0,1,2,3,4,5,6,7,8,9,10,11,12,13,14,15,16,17,18,19,20,21,22,23,24,25,26,27,28,29,30,31,32,33]
abbrev xPA6:List Nat:=[0,1,2,3,4,5,6,7,8,9,10,11,12,13,14,15,16,17,18,19,20,21,22,23,24,25,26,27,28,29,30]
abbrev xPA7:List Nat:=[0,1,2,3,4,5,6,7,8,9,10,11,12,13,14,15,16,17,18,19,20,21,22,23,24,25,26]
abbrev ZVh:List Nat:=[0,1,2,3,4,5,6,7,8,9,10,11,12,13,14,15,16]
abbrev ZGQ:List Nat:=[0,1,2,3,4,5,6,7,8,9,10,11,12,13]
abbrev ZOq:List Nat:=[0,1,2,3,4,5,6,7,8,9,10]
abbrev ZPb:List Nat:=[0,1,2,3,4,5,6,7,8,9]
abbrev ZVa:List Nat:=[0,1,3,7,15,31,0,64,255,511,0,2047]
abbrev ZR0:List Nat:=[0,1,3,7,15,31,15,79,207,463,975,1999,4047,8143,16383,32767,65535,131071,262143,524287,1048575,2097151,4194303,2097151,10485759,27262975,60817407,127926271,262143999,530579455,1067450367,2147483647,4294967295,8589934591,17179869183]
abbrev ZSX:List Nat:=[15,16,17,18,19,20,21,22,23,24,25,26,27,28,29,30]
set_option maxHeartbeats 8000000
theorem ZMD {a b:Int}(ha:0<=a)(hb:1<=b):0<=upS a b/\upS a b<=a+b:=by
 unfold upS;have h1:=Int.ediv_nonneg (show 0<=a+b-1 by omega) (show 0<=b by omega);have h2:=Int.ediv_le_self b (show 0<=a+b-1 by omega);omega
theorem ZSu {a b:Int}(ha:0<=a)(hb:1<=b):(a+b-1).tdiv b=upS a b:=Int.tdiv_eq_ediv_of_nonneg (by omega)
theorem ZEe {a:Int}(ha:0<=a):a.tdiv 1440=a / 1440:=Int.tdiv_eq_ediv_of_nonneg ha
theorem ZU2 {a b:Int}(ha:0<=a)(ha':a<=1000000000)(hb:1<=b)(hb':b<=10000)(h:Heap):Sv Tryz.prog 141 [i64 a,i64 b] h (RetP fun v h'=>v=i64 (upS a b)/\h'=h):=by
 have e:=ZSu ha hb;have hr:=ZMD ha hb;refine ZAF Tryz.func141 rfl (by rw[Tryz.ntmps141];rfl) ?_;show Wc Tryz.prog ⟨141,11,none⟩ _ _ _ _ _;refine zy ?_;refine zD (ZLt rfl rfl (by omega) e (by omega) (by omega)) ?_;exact ZAB (ZAC rfl ⟨rfl,rfl⟩)
def ZSD (t:ScT)(s:ScS)(bH:Nat):List Value:=[i64 s.venue,i64 s.print,i64 s.pack,i64 s.minute,i64 s.speed,i64 s.worth,.pointer (some ⟨bH,0,none⟩),str (ZBi t s),str (ZEu t s),
 str (ZA1 t s).name,i64 (ZA1 t s).land,i64 (ZA1 t s).proj,i64 (ZA1 t s).speeds.lo,i64 (ZA1 t s).speeds.hi,i64 (ZA1 t s).change,i64 (ZA1 t s).spool,i64 (ZA1 t s).turn,.bool (ZA1 t s).digital,i64 (endS t s),i64 (ZDH t s).lo,i64 (ZDH t s).hi]
def ZCt (h:Heap)(b bH:Nat)(t:ScT)(s:ScS):Prop:=h.get b=some (.cells (ZSD t s bH) 234 false)
theorem ZCt.ext {h h':Heap}{b bH:Nat}{t:ScT}{s:ScS}(a:ZCt h b bH t s)(he:Ext h h'):ZCt h' b bH t s:=he.get a
theorem ZTq {P:Program}{fr:Fr}{c:Code}{m:Mem}{ds:List ADef}{h:Heap}{Q:CQ}{o:AO}(hw:WF h)(k:∀h2,Ext h h2->WF h2->h2.get h.nx=some o->Wc P fr c m ds h2 Q):Wc P fr c m ds (h.add o) Q :=
 k _ (Ext.add hw o) (hw.add o) Heap.get_add_same
theorem ZRI {h:Heap}{a:Option Addr}{t:ScT}(m3:ZAM 9 ScVR h a t.venues){s:ScS}(h0:0<=s.venue)(h1:s.venue<t.venues.length):∃b o oa,a=some ⟨b,o,oa⟩/\ZAu h b (o+s.venue.toNat*9) 9=some [str (ZA1 t s).name,i64 (ZA1 t s).land,i64 (ZA1 t s).proj,i64 (ZA1 t s).speeds.lo,i64 (ZA1 t s).speeds.hi,i64 (ZA1 t s).change,i64 (ZA1 t s).spool,i64 (ZA1 t s).turn,.bool (ZA1 t s).digital]:=by
 obtain⟨b,o,oa,e,row,hrow,hr⟩:=m3 s.venue.toNat (by omega);obtain rfl:=hr;have:ZA1 t s=t.venues[s.venue.toNat]:=by unfold ZA1;rw[List.getD_eq_getElem?_getD,List.getElem?_eq_getElem (by omega)];rfl
 rw[this];exact⟨b,o,oa,e,hrow⟩
theorem ZT7 {h:Heap}{a:Option Addr}{t:ScT}(m5:ZAM 7 ScPR h a t.prints){s:ScS}(h0:0<=s.print)(h1:s.print<t.prints.length):∃b o oa,a=some ⟨b,o,oa⟩/\∃ap cp,ZAu h b (o+s.print.toNat*7) 7=some [str (prAt t s).name,str (prAt t s).work,str (prAt t s).version,.slice ap (prAt t s).reels.length cp,i64 (prAt t s).speeds.lo,i64 (prAt t s).speeds.hi,i64 (prAt t s).land]/\ZC9 h ap (prAt t s).reels:=by
 obtain⟨b,o,oa,e,row,hrow,ap,cp,hr,hI⟩:=m5 s.print.toNat (by omega);subst hr;have:prAt t s=t.prints[s.print.toNat]:=by unfold prAt;rw[List.getD_eq_getElem?_getD,List.getElem?_eq_getElem (by omega)];rfl
 rw[this];exact⟨b,o,oa,e,ap,cp,hrow,hI⟩
theorem ZTu {h:Heap}{a:Option Addr}{t:ScT}(m6:ZAM 5 ZDC h a t.packs){s:ScS}(h0:0<=s.pack)(h1:s.pack<t.packs.length):∃b o oa,a=some ⟨b,o,oa⟩/\ZAu h b (o+s.pack.toNat*5) 5=some [str (pkAt t s).name,str (pkAt t s).work,str (pkAt t s).version,i64 (pkAt t s).frames,i64 (pkAt t s).speed]:=by
 obtain⟨b,o,oa,e,row,hrow,hr⟩:=m6 s.pack.toNat (by omega);obtain rfl:=hr;have:pkAt t s=t.packs[s.pack.toNat]:=by unfold pkAt;rw[List.getD_eq_getElem?_getD,List.getElem?_eq_getElem (by omega)];rfl
 rw[this];exact⟨b,o,oa,e,hrow⟩
theorem ZJr {t:ScT}{s:ScS}(c1:¬(s.venue<0\/(t.venues.length:Int)-1<s.venue))(c2:decide (s.print = -1)=decide (s.pack = -1)):ZAY t s=2:=by
 unfold ZAY;rw[if_neg c1,if_pos (by rwa [decide_eq_decide] at c2)]
theorem ZGq {t:ScT}{s:ScS}(c1:¬(s.venue<0\/(t.venues.length:Int)-1<s.venue))(c2:¬decide (s.print = -1)=decide (s.pack = -1))(c3:(s.print ≠ -1/\(s.print<0\/(t.prints.length:Int)-1<s.print))\/(s.pack ≠ -1/\(s.pack<0\/(t.packs.length:Int)-1<s.pack))):ZAY t s=4:=by
 unfold ZAY;rw[if_neg c1,if_neg (by rwa [decide_eq_decide] at c2),if_pos c3]
theorem ZBS {t:ScT}{s:ScS}(c1:¬(s.venue<0\/(t.venues.length:Int)-1<s.venue))(c2:¬decide (s.print = -1)=decide (s.pack = -1))(c3:¬((s.print ≠ -1/\(s.print<0\/(t.prints.length:Int)-1<s.print))\/(s.pack ≠ -1/\(s.pack<0\/(t.packs.length:Int)-1<s.pack)))):ZAY t s=if (s.minute<0\/57600<s.minute)\/(s.speed<1\/60<s.speed)\/(s.worth<0\/1000000<s.worth) then 7 else 0:=by
 unfold ZAY;rw[if_neg c1,if_neg (by rwa [decide_eq_decide] at c2),if_neg c3]
def ZTz (t:ScT)(s:ScS)(bH:Nat)(h:Heap)(v:Value)(h':Heap):Prop:=Ext h h'/\((¬ZAY t s=0/\v=.tuple ⟨[.pointer none,i64 (ZAY t s)]⟩)\/(ZAY t s=0/\∃b,v=.tuple ⟨[.pointer (some ⟨b,0,none⟩),i64 0]⟩/\ZCt h' b bH t s/\h.nx<=b))
theorem ZBw {t:ScT}{s:ScS}{bH:Nat}{h h':Heap}{e:Int}(he:ZAY t s=e)(h0:e≠0)(hE:Ext h h'):ZTz t s bH h (.tuple ⟨[.pointer none,i64 e]⟩) h':=⟨hE,.inl ⟨by rw[he];exact h0,by rw[he]⟩⟩
theorem ZTs (x0 x1 x2 x3 x4 x5:Value)(a:Option Addr)(v0 v1 v2 v3 v4 v5 v6 v7 v8:Value) :
  Instr.fill ([(0,6),(6,1),(7,1),(8,1),(9,9),(18,1),(19,2)].toArray[·]?) (Value.agg ⟨[i64 0,i64 0,i64 0,i64 0,i64 0,i64 0,.pointer none,str [],str [],str [],i64 0,i64 0,i64 0,i64 0,i64 0,i64 0,i64 0,.bool false,i64 0,i64 0,i64 0]⟩).cells [(0,.agg ⟨[x0,x1,x2,x3,x4,x5]⟩),(1,.pointer a),(4,.agg ⟨[v0,v1,v2,v3,v4,v5,v6,v7,v8]⟩)]=some ⟨[x0,x1,x2,x3,x4,x5,.pointer a,str [],str [],v0,v1,v2,v3,v4,v5,v6,v7,v8,i64 0,i64 0,i64 0]⟩:=by kernel_rfl
set_option maxHeartbeats 2000000 in
theorem ZSP {bH:Nat}{t:ScT}{s:ScS}{sr:List Value}{h:Heap}(hH:ZDp h bH t)(hO:ScOk t)(hs:s.Fit)(hr:ScSR h sr s):Sv Tryz.prog 91 [.pointer (some ⟨bH,0,none⟩),.agg ⟨sr⟩] h (RetP (ZTz t s bH h)):=by
 obtain⟨row,ag,cg,aw,cw,ht,hgH,-,-⟩:=hH;obtain⟨al,cl,at',ct,a1,c1',a2,c2',a3,c3',a4,c4',a5,c5',a6,c6',rfl,m1,m2,m3,m4,m5,m6,m7,m8⟩:=ht;replace hgH:h.get bH=some (.cells [i64 t.first,.slice al t.lands.length cl,.slice at' t.travel.length ct,.slice a1 t.venues.length c1',.slice a2 t.rights.length c2',.slice a3 t.prints.length c3',.slice a4 t.packs.length c4',.slice a5 t.keys.length c5',.slice a6 t.loans.length c6',.slice ag (ZBq t).1.length cg,.slice aw (ZBq t).2.length cw] 227 false):=hgH;obtain rfl:=hr;obtain⟨s1,s2,s3,s4,s5,s6⟩:=hs;unfold I64 at s1 s2 s3 s4 s5 s6;have q1:=hO.venues1;have q2:=hO.prints1
 have q3:=hO.packs1;have q4:=hO.first;refine ZA5 fun hw=>?_;refine ZAF Tryz.func91 rfl (by rw[Tryz.ntmps91];rfl) ?_;show Wc Tryz.prog ⟨91,223,none⟩ _ _ _ _ _;refine zy ?_;refine ZAg rfl rfl rfl fun h1 hE1 hW1 hg1 hn1=>?_;have hgB:=hE1.get hgH;generalize h.nx=b1 at *;refine zy ?_
 by_cases c1:s.venue<0\/(t.venues.length:Int)-1<s.venue
 ·refine ZAJ hmix xPA4 ZPb (some 10) [([],(some 11)),([],none)] (by kernel_rfl) (by kernel_rfl) ?_
  refine z_f ?_;refine z_l ?_;refine z_m ?_;refine z_q ?_;refine z_f ?_;refine z_f ?_;refine z_f ?_;refine z_l ?_;refine z_c ?_;refine z_u ?_;refine ZAH ZPb (by kernel_rfl) rfl (ZAA rfl) rfl nb rfl (ZAT rfl rfl rfl rfl rfl Bod.h (ZUB c1 (ZA9 _ _ _ _)) ?_);refine ZAH ZOq (by kernel_rfl) rfl (ZAA rfl) rfl nb rfl (ZBW rfl rfl (ZAS rfl) ?_);refine ZAP (ZAA rfl) nb' ?_;refine zy ?_;exact ZAB (ZAC rfl (ZBw (by unfold ZAY;rw[if_pos c1]) (by decide) hE1))
 refine ZAJ hmix xPA4 ZPb (some 10) [([],(some 11)),([],none)] (by kernel_rfl) (by kernel_rfl) ?_;refine z_f ?_;refine z_l ?_;refine z_m ?_;refine z_q ?_;refine z_f ?_;refine z_f ?_;refine z_f ?_;refine z_l ?_;refine z_c ?_;refine z_u ?_;refine ZAH ZPb (by kernel_rfl) rfl (ZAA rfl) rfl nb rfl (ZAT rfl rfl rfl rfl rfl Bod.h (ZU9 c1 (ZA9 _ _ _ _)) ?_);refine ZAH ZOq (by kernel_rfl) rfl (ZAA rfl) rfl nb rfl (ZBW rfl rfl (ZAS rfl) ?_);refine ZAP (ZAA rfl) nb' ?_;refine zy ?_;refine zD (ZAs rfl rfl) ?_;refine zE (ZAs rfl rfl) ?_;refine zC (ZPS Und.h rfl rfl) (fun c2=>?_) (fun c2=>?_)
 ·refine zy ?_
  exact ZAB (ZAC rfl (ZBw (ZJr c1 c2) (by decide) hE1))
 refine zy ?_
 by_cases hp:s.print = -1
 rotate_left
 ·have hk:s.pack = -1:=Classical.byContradiction fun hk=>c2 (by rw[decide_eq_false hp,decide_eq_false hk])
  by_cases c3:s.print<0\/(t.prints.length:Int)-1<s.print
  ·refine ZAJ hmix ZR0 ZGQ (some 14) [(ZSX,(some 31)),([32,33],(some 34)),([],none)] (by kernel_rfl) (by kernel_rfl) ?_
   refine z_f ?_;refine z_l ?_;refine ZAE rfl rfl rfl rfl rfl (fun _=>A_tt hp (ZAo rfl rfl)) ?_;refine z_m ?_;refine g_f ?_;refine g_l ?_;refine g_m ?_;refine g_q ?_;refine g_f ?_;refine g_f ?_;refine g_f ?_;refine g_l ?_;refine g_c ?_;refine g_u ?_;refine ZAH ZGQ (by kernel_rfl) rfl (ZAA rfl) rfl nb rfl (ZAT rfl rfl rfl rfl rfl Bod.h (ZUB c3 (ZA9 _ _ _ _)) ?_);refine z_p ?_;refine z_m ?_;refine g_f ?_;refine g_l ?_;refine z_o ?_;refine g_m ?_;refine g_f ?_;refine g_l ?_;refine g_m ?_;refine g_q ?_;refine g_f ?_;refine g_f ?_;refine g_f ?_;refine g_l ?_;refine g_c ?_;refine g_u ?_;refine ZAH xPA6 (by kernel_rfl) rfl (ZAA rfl) rfl nb rfl (ZBf rfl ?_)
   refine g_p ?_;refine z_p ?_;refine ZAH xPA5 (by kernel_rfl) rfl (ZAA rfl) rfl nb rfl (ZBW rfl rfl (ZAS rfl) ?_);refine ZAP (ZAA rfl) nb' ?_;refine zy ?_;exact ZAB (ZAC rfl (ZBw (ZGq c1 c2 (.inl ⟨hp,c3⟩)) (by decide) hE1))
  refine ZAJ hmix ZR0 ZGQ (some 14) [(ZSX,(some 31)),([32,33],(some 34)),([],none)] (by kernel_rfl) (by kernel_rfl) ?_;refine z_f ?_;refine z_l ?_;refine ZAE rfl rfl rfl rfl rfl (fun _=>A_tt hp (ZAo rfl rfl)) ?_;refine z_m ?_;refine g_f ?_;refine g_l ?_;refine g_m ?_;refine g_q ?_;refine g_f ?_;refine g_f ?_;refine g_f ?_;refine g_l ?_;refine g_c ?_;refine g_u ?_;refine ZAH ZGQ (by kernel_rfl) rfl (ZAA rfl) rfl nb rfl (ZAT rfl rfl rfl rfl rfl Bod.h (ZU9 c3 (ZA9 _ _ _ _)) ?_);refine z_p ?_;refine z_m ?_;refine g_f ?_;refine g_l ?_
  first|refine ZAb rfl rfl rfl rfl ?_|refine ZAE rfl rfl rfl rfl rfl (fun _=>A_ff (by omega) (ZAo rfl rfl)) ?_
  refine g_m ?_;refine g_f ?_;refine g_l ?_;refine g_m ?_;refine g_q ?_;refine g_f ?_;refine g_f ?_;refine g_f ?_;refine g_l ?_;refine g_c ?_;refine g_u ?_;refine ZAH xPA6 (by kernel_rfl) rfl (ZAA rfl) rfl nb rfl (ZBf rfl ?_);refine g_p ?_;refine z_p ?_;refine ZAH xPA5 (by kernel_rfl) rfl (ZAA rfl) rfl nb rfl (ZBW rfl rfl (ZAS rfl) ?_);refine ZAP (ZAA rfl) nb' ?_;have hprint:0<=s.print/\s.print<t.prints.length:=by omega
  replace c3:¬((s.print ≠ -1/\(s.print<0\/(t.prints.length:Int)-1<s.print))\/(s.pack ≠ -1/\(s.pack<0\/(t.packs.length:Int)-1<s.pack))):=by omega
  refine zy ?_;refine ZAk rfl rfl rfl rfl rfl Bod.h rfl rfl (ZA9 _ _ _ _) (fun c4=>?_) (fun c4=>?_)
  ·refine zy ?_
   exact ZAB (ZAC rfl (ZBw (by rw[ZBS c1 c2 c3,if_pos (.inl (of_decide_eq_true c4))]) (by decide) hE1))
  refine zy ?_;refine ZAk rfl rfl rfl rfl rfl Bod.h rfl rfl (ZA9 _ _ _ _) (fun c5=>?_) (fun c5=>?_)
  ·refine zy ?_
   exact ZAB (ZAC rfl (ZBw (by rw[ZBS c1 c2 c3,if_pos (.inr (.inl (of_decide_eq_true c5)))]) (by decide) hE1))
  refine zy ?_;refine ZAk rfl rfl rfl rfl rfl Bod.h rfl rfl (ZA9 _ _ _ _) (fun c6=>?_) (fun c6=>?_)
  ·refine zy ?_
   exact ZAB (ZAC rfl (ZBw (by rw[ZBS c1 c2 c3,if_pos (.inr (.inr (of_decide_eq_true c6)))]) (by decide) hE1))
  refine zy ?_;replace c4:=of_decide_eq_false c4;replace c5:=of_decide_eq_false c5;replace c6:=of_decide_eq_false c6;have hs0:ZAY t s=0:=by rw[ZBS c1 c2 c3,if_neg (fun x=>x.elim c4 fun x=>x.elim c5 c6)]
  have hlr:=ZNQ hO hs0;obtain⟨bv,ov,oav,rfl,hrv⟩:=ZRI (ZAM.ext (R:=ScVR) (fun x _=>x) m3 hE1) (s:=s) (by omega) (by omega);obtain⟨-,⟨vp1,vp2⟩,⟨vc1,vc2⟩,-⟩:=ZJl (ZQV hO hs0);generalize hV:ZA1 t s=V at *;refine ZAJ hmix xPA2 ZGQ (some 14) [([],none)] (by kernel_rfl) (by kernel_rfl) ?_;refine z_r ?_;refine z_m ?_;refine z_m ?_;refine z_q ?_;refine z_f ?_;refine z_f ?_;refine z_f ?_;refine z_l ?_;refine z_f ?_;refine z_l ?_;refine ZAE rfl rfl rfl rfl rfl (fun _=>ZAL (k:=s.venue.toNat) Und.h Tsz.h rfl rfl (by omega) (by omega)) ?_;refine z_r ?_;refine ZAE rfl rfl rfl rfl rfl (fun _=>ZDr rfl (ZTs _ _ _ _ _ _ _ _ _ _ _ _ _ _ _ _)) ?_
  refine ZCX (nk:=.ptr) rfl rfl rfl rfl rfl (fun _ _ hs=>ZVD hs rfl) ?_;refine ZAH (h1:=(Heap.add h1 _)) ZGQ (by kernel_rfl) rfl (ZAA rfl) rfl rfl rfl (ZBW rfl rfl (ZAS rfl) ?_);refine ZAP (h1:=(Heap.add h1 _)) (ZAA rfl) rfl ?_;refine ZTq (o:=.cells [i64 s.venue,i64 s.print,i64 s.pack,i64 s.minute,i64 s.speed,i64 s.worth,.pointer (some ⟨bH,0,none⟩),str [],str [],str V.name,i64 V.land,i64 V.proj,i64 V.speeds.lo,i64 V.speeds.hi,i64 V.change,i64 V.spool,i64 V.turn,.bool V.digital,i64 0,i64 0,i64 0] 234 false) hW1 fun h2 hE2 hW2 hgS=>?_;have g12:=hE2.get hg1;have gB2:=hE2.get hgB;have hnS:h1.nx<=h1.nx:=Nat.le_refl _
  refine zy ?_;refine zD (A_ff (by omega) (ZDh rfl rfl)) ?_;obtain⟨bp,op,oap,rfl,ap,cp,hrp,hI⟩:=ZT7 (ZAM.ext (R:=ScPR) (fun x y=>ScPR.ext x y) m5 (hE1.trans hE2)) (s:=s) hprint.1 hprint.2;obtain⟨⟨l1,l2⟩,l3,-,-⟩:=ZJ5 (ZUH hO hs0 hk);have hEnd:endS t s=s.minute+ZFw t s:=rfl;have hlong:ZFw t s=if V.proj<2 then upS (ZEF (prAt t s).reels s.speed) 60+V.change*(((prAt t s).reels.length:Int)-1) else upS (ZEF (prAt t s).reels s.speed) 60:=by unfold ZFw;rw[if_neg (by omega),hV]
  have hsr:=ZJE (l:=(prAt t s).reels) (speed:=s.speed) (by omega) l3;generalize hPr:prAt t s=Pr at *;refine ZAJ hmix ZVa ZOq (some 11) [([],none)] (by kernel_rfl) (by kernel_rfl) ?_;refine z_m ?_;refine z_q ?_;refine z_f ?_;refine z_f ?_;refine z_f ?_;refine z_l ?_;refine z_f ?_;refine z_l ?_;refine ZAE rfl rfl rfl rfl rfl (fun _=>ZAL (k:=s.print.toNat) Und.h Tsz.h rfl rfl (by omega) (by omega)) ?_;refine z_r ?_;refine ZCX (nk:=.ptr) rfl rfl rfl rfl rfl (fun _ _ _=>ZHK Zr.h) ?_;refine ZAH (h1:=(Heap.add h2 _)) ZOq (by kernel_rfl) rfl (ZAA rfl) rfl rfl rfl (ZA6 (ZAz rfl rfl Tsz.h rfl rfl Heap.get_add_same rfl rfl rfl (fun h3 hU3 hW3=>?_)))
  have hE3:=hU3.ext (Ext.add hW2 _) hW2 (Nat.le_refl _);refine ZAP (h1:=h3) (ZAA rfl) rfl ?_;have gP:=hU3.at';have gS:=hE3.get hgS;have hEn:=hE2.trans hE3;have k1:=hEn.get hg1;have hI3:=hI.ext hE3;generalize hbP:h2.nx=bP at gP;have hne:h1.nx≠bP:=by
   have:=hW2 _ _ hgS;omega
  refine zy ?_
  refine ZAO (fun (k:Nat) m ds h'=>ds=[]/\h3=h'/\k<=Pr.reels.length ∧
    AllK m [(0,.pointer (some ⟨bH,0,none⟩)),(3,.pointer (some ⟨b1,0,none⟩)),(6,.pointer (some ⟨h1.nx,0,none⟩)),(8,.pointer (some ⟨bP,0,none⟩)),(9,i64 (ZEF (Pr.reels.take k) s.speed)),(141,.slice ap Pr.reels.length cp),(142,i64 Pr.reels.length),(143,i64 k)]) (fun k=>Pr.reels.length-k) 0 ?_ ?_
  ·exact⟨rfl,rfl,Nat.zero_le _,rfl,rfl,rfl,rfl,rfl,rfl,rfl,rfl,trivial⟩
  rintro k m ds h' ⟨rfl,rfl,hk',hall⟩;refine Wc.le ?_ (Le.kn hall);refine zy ?_;refine zC (ZAf rfl rfl) (fun h4=>?_) (fun h4=>?_)
  ·have hk2:k<Pr.reels.length:=by simpa using h4
   obtain⟨b2,o2,oa2,rfl,hc2⟩:=hI3 k hk2;have hn2:=l3 _ (List.getElem_mem hk2);have hss:ZEF (Pr.reels.take (k+1)) s.speed=ZEF (Pr.reels.take k) s.speed+upS Pr.reels[k] s.speed:=by
    unfold ZEF;rw[List.take_add_one,List.getElem?_eq_getElem hk2,List.map_append,List.sum_append];simp
   have hs2:=ZJE (l:=Pr.reels.take k) (speed:=s.speed) (by omega) (fun n hn=>l3 n (List.mem_of_mem_take hn));rw[List.length_take,Nat.min_eq_left (by omega)] at hs2;have hu:=ZMD (a:=Pr.reels[k]) (b:=s.speed) (by omega) (by omega);have hup:=fun h=>ZU2 (a:=Pr.reels[k]) (b:=s.speed) (by omega) (by omega) (by omega) (by omega) h;generalize hmk:Pr.reels[k]=x at *;generalize upS x s.speed=u at *;generalize ZEF (Pr.reels.take k) s.speed=z at *;refine zy ?_;refine zD (A_ix Und.h Tsz.h rfl rfl) ?_;refine zV (hup _) ?_;refine⟨k+1,(by show Pr.reels.length-(k+1)<Pr.reels.length-k;omega),rfl,rfl,hk2,rfl,rfl,rfl,rfl,?_,rfl,rfl,rfl,trivial⟩
   rw[hss];rfl
  have hk2:k=Pr.reels.length:=by omega
  subst hk2;rw[List.take_length];clear hk';have hup:=fun h=>ZU2 (a:=ZEF Pr.reels s.speed) (b:=60) (by omega) (by omega) (by omega) (by omega) h;have hu:=ZMD (a:=ZEF Pr.reels s.speed) (b:=60) (by omega) (by omega);generalize hZ:ZEF Pr.reels s.speed=Z at *;generalize hN:upS Z 60=N at *;clear hall h4;refine zy ?_;refine ZAJ hmix [0,0,0,0,8,0,32,0,128,0,512,1920,1561,5657,13849,30331,63099,128635,262143,524287,1048575] ZPb (some 10) [([11,12,13],(some 14)),([15,16],(some 17)),([18,19],(some 20)),([],none)] (by kernel_rfl) (by kernel_rfl) ?_;refine z_m ?_;refine z_m ?_;refine z_m ?_;refine z_f ?_;refine z_l ?_;refine z_f ?_;refine z_l ?_;refine z_f ?_;refine z_l ?_;refine z_m ?_
  refine ZAH [9] (by kernel_rfl) rfl (ZAA rfl) rfl nb rfl (ZAT rfl rfl rfl rfl rfl Bod.h (hup _) ?_);refine z_y ?_;refine z_q ?_;refine z_f ?_;refine ZAH [0,3,4,9,10,12,13] (by kernel_rfl) rfl (by refine t_l 8 ?_;refine t_f 7 ?_;refine t_l 6 ?_;refine t_f 5 ?_;refine t_l 4 ?_;refine t_f 3 ?_;refine t_m 2 ?_;refine t_m 1 ?_;refine t_m 0 ?_;exact ZAA rfl) rfl nb rfl (ZA6 (ZAz rfl rfl Tsz.h rfl rfl gS rfl rfl rfl (fun h4 hU4 hW4=>?_)));have hEn4:=hU4.ext hEn hW1 (Nat.le_refl _);have gP4:=hU4.get (Ne.symm hne) gP;have k14:=hEn4.get hg1;have gS4:=hU4.at';refine z_q ?_;refine z_f ?_;refine ZAH [0,1,3,4,5,6,9,10,12,13,14,15,16] (by kernel_rfl) rfl (by refine t_y 11 ?_;refine t_l 8 ?_;refine t_f 7 ?_;refine t_l 6 ?_;refine t_f 5 ?_;refine t_m 2 ?_;refine t_m 1 ?_;exact ZAA rfl) rfl nb rfl (ZA6 (ZAz rfl rfl Tsz.h rfl rfl gS4 rfl rfl rfl (fun h5 hU5 hW5=>?_)))
  have hEn5:=hU5.ext hEn4 hW1 (Nat.le_refl _);have gP5:=hU5.get (Ne.symm hne) gP4;have k15:=hEn5.get hg1;have gS5:=hU5.at';refine z_q ?_;refine z_f ?_;refine ZAH [0,1,2,3,4,5,6,7,8,9,10,11,12,13,14,15,16,17,18,19] (by kernel_rfl) rfl (by refine t_y 11 ?_;refine t_l 8 ?_;refine t_f 7 ?_;refine t_m 2 ?_;exact ZAA rfl) rfl nb rfl (ZA6 (ZAz rfl rfl Tsz.h rfl rfl gS5 rfl rfl rfl (fun h6 hU6 hW6=>?_)));have hEn6:=hU6.ext hEn5 hW1 (Nat.le_refl _);have gP6:=hU6.get (Ne.symm hne) gP5;have gS6:=hU6.at';refine ZAP (ZAA rfl) nb' ?_;clear gP gP4 gP5 k1 k14 k15 gS gS4 gS5 hEn hEn4 hEn5 hU4 hU5 hU6;refine zy ?_
  by_cases c7:V.proj<2
  ·rw[if_pos c7] at hlong
   have hmul:0<=V.change*((Pr.reels.length:Int)-1):=Int.mul_nonneg vc1 (by omega);have hmul2:V.change*((Pr.reels.length:Int)-1)<=60*11:=Int.mul_le_mul vc2 (by omega) (by omega) (by decide);generalize hM:V.change*((Pr.reels.length:Int)-1)=M at *;refine zD (A_tt c7 (ZAf rfl rfl)) ?_;refine ZAJ hmix [0,1,3,7,0,16,48,112,240,0,512,1536,3584,8176,16383,32767,65535,131071] ZVh (some 17) [([],none)] (by kernel_rfl) (by kernel_rfl) ?_;refine z_m ?_;refine z_q ?_;refine z_f ?_;refine z_l ?_;refine z_m ?_;refine z_q ?_;refine z_f ?_;refine z_f ?_;refine z_l ?_;refine z_f ?_;refine z_l ?_;refine z_c ?_;refine z_u ?_;refine ZAE rfl rfl rfl rfl rfl (fun _=>ZT6 rfl rfl hM (by omega) (by omega)) ?_;refine z_y ?_;refine z_q ?_;refine z_f ?_
   refine ZAH ZVh (by kernel_rfl) rfl (ZAA rfl) rfl nb rfl (ZAz rfl rfl Tsz.h rfl rfl gS6 rfl rfl rfl (fun h7 hU7=>?_));refine ZAP (ZAA rfl) nb' ?_;have hEn:=hU7.ext hEn6 hW1 (Nat.le_refl _);have gSn:=hU7.at';rw[hlong] at hEnd hlr;rw[<-Int.add_assoc] at hEnd;have k1:=hEn.get hg1;have kB:=hEn.get hgB;refine zy ?_;refine ZAJ hmix xPA3 xPA7 (some 27) [([],none)] (by kernel_rfl) (by kernel_rfl) ?_;refine z_m ?_;refine z_m ?_;refine z_q ?_;refine z_f ?_;refine z_f ?_;refine z_f ?_;refine z_l ?_;refine z_f ?_;refine z_l ?_;refine ZAE rfl rfl rfl rfl rfl (fun _=>ZLt rfl rfl (by omega) (ZEe (by omega)) (by omega) (by omega)) ?_;refine z_y ?_;refine z_m ?_;refine z_q ?_;refine z_f ?_;refine z_f ?_;refine z_f ?_;refine z_l ?_;refine z_m ?_;refine z_q ?_;refine z_f ?_;refine z_l ?_;refine z_u ?_;refine ZAE rfl rfl rfl rfl rfl (fun _=>ZLt rfl rfl (by omega) (ZEe (by omega)) (by omega) (by omega)) ?_;refine z_y ?_;refine z_b ?_;refine z_q ?_;refine z_f ?_
   refine ZAH xPA7 (by kernel_rfl) rfl (ZAA rfl) rfl nb rfl (ZAz rfl rfl Tsz.h rfl rfl gSn rfl rfl rfl (fun h9 hU9=>?_));refine ZAP (ZAA rfl) nb' ?_;have hE9:=hU9.ext hEn hW1 (Nat.le_refl _);have gS9:=hU9.at';refine zy ?_;refine ZAB (ZAC rfl ⟨hE1.trans hE9,.inr ⟨hs0,h1.nx,rfl,?_,hE1.2.1⟩⟩);have e1:ZBi t s=Pr.work:=by unfold ZBi;rw[if_pos hprint.1,hPr]
   have e2:ZEu t s=Pr.version:=by unfold ZEu;rw[if_pos hprint.1,hPr]
   unfold ZCt ZSD ZDH;rw[e1,e2,hV,hEnd];exact gS9
  ·rw[if_neg c7] at hlong
   refine zE (A_ff c7 (ZAf rfl rfl)) ?_;have hEn:=hEn6;have gSn:=gS6;rw[hlong] at hEnd hlr;have k1:=hEn.get hg1;have kB:=hEn.get hgB;refine zy ?_;refine ZAJ hmix xPA3 xPA7 (some 27) [([],none)] (by kernel_rfl) (by kernel_rfl) ?_;refine z_m ?_;refine z_m ?_;refine z_q ?_;refine z_f ?_;refine z_f ?_;refine z_f ?_;refine z_l ?_;refine z_f ?_;refine z_l ?_;refine ZAE rfl rfl rfl rfl rfl (fun _=>ZLt rfl rfl (by omega) (ZEe (by omega)) (by omega) (by omega)) ?_;refine z_y ?_;refine z_m ?_;refine z_q ?_;refine z_f ?_;refine z_f ?_;refine z_f ?_;refine z_l ?_;refine z_m ?_;refine z_q ?_;refine z_f ?_;refine z_l ?_;refine z_u ?_;refine ZAE rfl rfl rfl rfl rfl (fun _=>ZLt rfl rfl (by omega) (ZEe (by omega)) (by omega) (by omega)) ?_;refine z_y ?_;refine z_b ?_;refine z_q ?_;refine z_f ?_
   refine ZAH xPA7 (by kernel_rfl) rfl (ZAA rfl) rfl nb rfl (ZAz rfl rfl Tsz.h rfl rfl gSn rfl rfl rfl (fun h9 hU9=>?_));refine ZAP (ZAA rfl) nb' ?_;have hE9:=hU9.ext hEn hW1 (Nat.le_refl _);have gS9:=hU9.at';refine zy ?_;refine ZAB (ZAC rfl ⟨hE1.trans hE9,.inr ⟨hs0,h1.nx,rfl,?_,hE1.2.1⟩⟩);have e1:ZBi t s=Pr.work:=by unfold ZBi;rw[if_pos hprint.1,hPr]
   have e2:ZEu t s=Pr.version:=by unfold ZEu;rw[if_pos hprint.1,hPr]
   unfold ZCt ZSD ZDH;rw[e1,e2,hV,hEnd];exact gS9
 ·have hk:¬s.pack = -1:=fun hk=>c2 (by rw[decide_eq_true hp,decide_eq_true hk])
  by_cases c3:s.pack<0\/(t.packs.length:Int)-1<s.pack
  ·refine ZAJ hmix ZR0 ZGQ (some 14) [(ZSX,(some 31)),([32,33],(some 34)),([],none)] (by kernel_rfl) (by kernel_rfl) ?_
   refine z_f ?_;refine z_l ?_;refine ZAE rfl rfl rfl rfl rfl (fun _=>A_ff (by omega) (ZAo rfl rfl)) ?_;refine z_m ?_;refine g_f ?_;refine g_l ?_;refine g_m ?_;refine g_q ?_;refine g_f ?_;refine g_f ?_;refine g_f ?_;refine g_l ?_;refine g_c ?_;refine g_u ?_;refine ZAH ZGQ (by kernel_rfl) rfl (ZAA rfl) rfl nb rfl (ZBf rfl ?_);refine z_p ?_;refine z_m ?_;refine g_f ?_;refine g_l ?_
   first|refine ZAb rfl rfl rfl rfl ?_|refine ZAE rfl rfl rfl rfl rfl (fun _=>A_tt hk (ZAo rfl rfl)) ?_
   refine g_m ?_;refine g_f ?_;refine g_l ?_;refine g_m ?_;refine g_q ?_;refine g_f ?_;refine g_f ?_;refine g_f ?_;refine g_l ?_;refine g_c ?_;refine g_u ?_;refine ZAH xPA6 (by kernel_rfl) rfl (ZAA rfl) rfl nb rfl (ZAT rfl rfl rfl rfl rfl Bod.h (ZUB c3 (ZA9 _ _ _ _)) ?_);refine g_p ?_;refine z_p ?_;refine ZAH xPA5 (by kernel_rfl) rfl (ZAA rfl) rfl nb rfl (ZBW rfl rfl (ZAS rfl) ?_);refine ZAP (ZAA rfl) nb' ?_;refine zy ?_;exact ZAB (ZAC rfl (ZBw (ZGq c1 c2 (.inr ⟨hk,c3⟩)) (by decide) hE1))
  refine ZAJ hmix ZR0 ZGQ (some 14) [(ZSX,(some 31)),([32,33],(some 34)),([],none)] (by kernel_rfl) (by kernel_rfl) ?_;refine z_f ?_;refine z_l ?_;refine ZAE rfl rfl rfl rfl rfl (fun _=>A_ff (by omega) (ZAo rfl rfl)) ?_;refine z_m ?_;refine g_f ?_;refine g_l ?_;refine g_m ?_;refine g_q ?_;refine g_f ?_;refine g_f ?_;refine g_f ?_;refine g_l ?_;refine g_c ?_;refine g_u ?_;refine ZAH ZGQ (by kernel_rfl) rfl (ZAA rfl) rfl nb rfl (ZBf rfl ?_);refine z_p ?_;refine z_m ?_;refine g_f ?_;refine g_l ?_
  first|refine ZAb rfl rfl rfl rfl ?_|refine ZAE rfl rfl rfl rfl rfl (fun _=>A_tt hk (ZAo rfl rfl)) ?_
  refine g_m ?_;refine g_f ?_;refine g_l ?_;refine g_m ?_;refine g_q ?_;refine g_f ?_;refine g_f ?_;refine g_f ?_;refine g_l ?_;refine g_c ?_;refine g_u ?_;refine ZAH xPA6 (by kernel_rfl) rfl (ZAA rfl) rfl nb rfl (ZAT rfl rfl rfl rfl rfl Bod.h (ZU9 c3 (ZA9 _ _ _ _)) ?_);refine g_p ?_;refine z_p ?_;refine ZAH xPA5 (by kernel_rfl) rfl (ZAA rfl) rfl nb rfl (ZBW rfl rfl (ZAS rfl) ?_);refine ZAP (ZAA rfl) nb' ?_;have hpack:0<=s.pack/\s.pack<t.packs.length:=by omega
  replace c3:¬((s.print ≠ -1/\(s.print<0\/(t.prints.length:Int)-1<s.print))\/(s.pack ≠ -1/\(s.pack<0\/(t.packs.length:Int)-1<s.pack))):=by omega
  refine zy ?_;refine ZAk rfl rfl rfl rfl rfl Bod.h rfl rfl (ZA9 _ _ _ _) (fun c4=>?_) (fun c4=>?_)
  ·refine zy ?_
   exact ZAB (ZAC rfl (ZBw (by rw[ZBS c1 c2 c3,if_pos (.inl (of_decide_eq_true c4))]) (by decide) hE1))
  refine zy ?_;refine ZAk rfl rfl rfl rfl rfl Bod.h rfl rfl (ZA9 _ _ _ _) (fun c5=>?_) (fun c5=>?_)
  ·refine zy ?_
   exact ZAB (ZAC rfl (ZBw (by rw[ZBS c1 c2 c3,if_pos (.inr (.inl (of_decide_eq_true c5)))]) (by decide) hE1))
  refine zy ?_;refine ZAk rfl rfl rfl rfl rfl Bod.h rfl rfl (ZA9 _ _ _ _) (fun c6=>?_) (fun c6=>?_)
  ·refine zy ?_
   exact ZAB (ZAC rfl (ZBw (by rw[ZBS c1 c2 c3,if_pos (.inr (.inr (of_decide_eq_true c6)))]) (by decide) hE1))
  refine zy ?_;replace c4:=of_decide_eq_false c4;replace c5:=of_decide_eq_false c5;replace c6:=of_decide_eq_false c6;have hs0:ZAY t s=0:=by rw[ZBS c1 c2 c3,if_neg (fun x=>x.elim c4 fun x=>x.elim c5 c6)]
  have hlr:=ZNQ hO hs0;obtain⟨bv,ov,oav,rfl,hrv⟩:=ZRI (ZAM.ext (R:=ScVR) (fun x _=>x) m3 hE1) (s:=s) (by omega) (by omega);obtain⟨-,⟨vp1,vp2⟩,⟨vc1,vc2⟩,-⟩:=ZJl (ZQV hO hs0);generalize hV:ZA1 t s=V at *;refine ZAJ hmix xPA2 ZGQ (some 14) [([],none)] (by kernel_rfl) (by kernel_rfl) ?_;refine z_r ?_;refine z_m ?_;refine z_m ?_;refine z_q ?_;refine z_f ?_;refine z_f ?_;refine z_f ?_;refine z_l ?_;refine z_f ?_;refine z_l ?_;refine ZAE rfl rfl rfl rfl rfl (fun _=>ZAL (k:=s.venue.toNat) Und.h Tsz.h rfl rfl (by omega) (by omega)) ?_;refine z_r ?_;refine ZAE rfl rfl rfl rfl rfl (fun _=>ZDr rfl (ZTs _ _ _ _ _ _ _ _ _ _ _ _ _ _ _ _)) ?_
  refine ZCX (nk:=.ptr) rfl rfl rfl rfl rfl (fun _ _ hs=>ZVD hs rfl) ?_;refine ZAH (h1:=(Heap.add h1 _)) ZGQ (by kernel_rfl) rfl (ZAA rfl) rfl rfl rfl (ZBW rfl rfl (ZAS rfl) ?_);refine ZAP (h1:=(Heap.add h1 _)) (ZAA rfl) rfl ?_;refine ZTq (o:=.cells [i64 s.venue,i64 s.print,i64 s.pack,i64 s.minute,i64 s.speed,i64 s.worth,.pointer (some ⟨bH,0,none⟩),str [],str [],str V.name,i64 V.land,i64 V.proj,i64 V.speeds.lo,i64 V.speeds.hi,i64 V.change,i64 V.spool,i64 V.turn,.bool V.digital,i64 0,i64 0,i64 0] 234 false) hW1 fun h2 hE2 hW2 hgS=>?_;have g12:=hE2.get hg1;have gB2:=hE2.get hgB;have hnS:h1.nx<=h1.nx:=Nat.le_refl _
  refine zy ?_;refine zD (A_tt hpack.1 (ZDh rfl rfl)) ?_;obtain⟨bp,op,oap,rfl,hrp⟩:=ZTu (ZAM.ext (R:=ZDC) (fun x _=>x) m6 (hE1.trans hE2)) (s:=s) hpack.1 hpack.2;obtain⟨⟨l1,l2⟩,-⟩:=ZQN (ZVO hO hs0 hpack.1);have hEnd:endS t s=s.minute+ZFw t s:=rfl;have hlong:ZFw t s=upS (pkAt t s).frames (60*s.speed):=by unfold ZFw;rw[if_pos hpack.1,ZVu (by omega)]
  generalize hPk:pkAt t s=Pk at *;rw[hlong] at hEnd hlr;have hup:=fun h=>ZU2 (a:=Pk.frames) (b:=60*s.speed) (by omega) (by omega) (by omega) (by omega) h;generalize hX:60*s.speed=X at *;generalize hN:upS Pk.frames X=N at *;refine ZAJ hmix ZVa ZOq (some 11) [([],none)] (by kernel_rfl) (by kernel_rfl) ?_;refine z_m ?_;refine z_q ?_;refine z_f ?_;refine z_f ?_;refine z_f ?_;refine z_l ?_;refine z_f ?_;refine z_l ?_;refine ZAE rfl rfl rfl rfl rfl (fun _=>ZAL (k:=s.pack.toNat) Und.h Tsz.h rfl rfl (by omega) (by omega)) ?_;refine z_r ?_;refine ZCX (nk:=.ptr) rfl rfl rfl rfl rfl (fun _ _ _=>ZHK Zr.h) ?_
  refine ZAH (h1:=(Heap.add h2 _)) ZOq (by kernel_rfl) rfl (ZAA rfl) rfl rfl rfl (ZA6 (ZAz rfl rfl Tsz.h rfl rfl Heap.get_add_same rfl rfl rfl (fun h3 hU3 hW3=>?_)));have hE3:=hU3.ext (Ext.add hW2 _) hW2 (Nat.le_refl _);refine ZAP (h1:=h3) (ZAA rfl) rfl ?_;have gP:=hU3.at';have gS:=hE3.get hgS;have hEn3:=hE2.trans hE3;have k13:=hEn3.get hg1;generalize hbP:h2.nx=bP at gP;have hne:h1.nx≠bP:=by
   have:=hW2 _ _ hgS;omega
  refine zy ?_;refine ZAJ hmix [0,0,0,0,8,0,32,0,128,0,512,0,2048,6144,15872,32640,32281,97817,228889,491131,1015419,2063995,4194303,8388607,16777215] ZGQ (some 14) [([15,16,17],(some 18)),([19,20],(some 21)),([22,23],(some 24)),([],none)] (by kernel_rfl) (by kernel_rfl) ?_;refine z_m ?_;refine z_m ?_;refine z_m ?_;refine z_f ?_;refine z_l ?_;refine z_f ?_;refine z_l ?_;refine z_f ?_;refine z_l ?_;refine z_f ?_;refine z_l ?_;refine z_f ?_;refine z_l ?_;refine ZAE rfl rfl rfl rfl rfl (fun _=>ZT6 rfl rfl hX (by omega) (by omega)) ?_;refine ZAH [9,10,11,12,13] (by kernel_rfl) rfl (ZAA rfl) rfl nb rfl (ZAT rfl rfl rfl rfl rfl Bod.h (hup _) ?_)
  refine z_y ?_;refine z_q ?_;refine z_f ?_;refine ZAH [0,3,4,9,10,11,12,13,14,16,17] (by kernel_rfl) rfl (by refine t_l 8 ?_;refine t_f 7 ?_;refine t_l 6 ?_;refine t_f 5 ?_;refine t_l 4 ?_;refine t_f 3 ?_;refine t_m 2 ?_;refine t_m 1 ?_;refine t_m 0 ?_;exact ZAA rfl) rfl nb rfl (ZA6 (ZAz rfl rfl Tsz.h rfl rfl gS rfl rfl rfl (fun h4 hU4 hW4=>?_)));have hEn4:=hU4.ext hEn3 hW1 (Nat.le_refl _);have gP4:=hU4.get (Ne.symm hne) gP;have k14:=hEn4.get hg1;have gS4:=hU4.at';refine z_q ?_;refine z_f ?_;refine ZAH [0,1,3,4,5,6,9,10,11,12,13,14,16,17,18,19,20] (by kernel_rfl) rfl (by refine t_y 15 ?_;refine t_l 8 ?_;refine t_f 7 ?_;refine t_l 6 ?_;refine t_f 5 ?_;refine t_m 2 ?_;refine t_m 1 ?_;exact ZAA rfl) rfl nb rfl (ZA6 (ZAz rfl rfl Tsz.h rfl rfl gS4 rfl rfl rfl (fun h5 hU5 hW5=>?_)))
  have hEn5:=hU5.ext hEn4 hW1 (Nat.le_refl _);have gP5:=hU5.get (Ne.symm hne) gP4;have k15:=hEn5.get hg1;have gS5:=hU5.at';refine z_q ?_;refine z_f ?_;refine ZAH [0,1,2,3,4,5,6,7,8,9,10,11,12,13,14,15,16,17,18,19,20,21,22,23] (by kernel_rfl) rfl (by refine t_y 15 ?_;refine t_l 8 ?_;refine t_f 7 ?_;refine t_m 2 ?_;exact ZAA rfl) rfl nb rfl (ZA6 (ZAz rfl rfl Tsz.h rfl rfl gS5 rfl rfl rfl (fun h6 hU6 hW6=>?_)));have hEn:=hU6.ext hEn5 hW1 (Nat.le_refl _);have gSn:=hU6.at';refine ZAP (ZAA rfl) nb' ?_;clear gP gP4 gP5 k13 k14 k15 gS gS4 gS5 hEn3 hEn4 hEn5 hU4 hU5 hU6;have k1:=hEn.get hg1;have kB:=hEn.get hgB
  refine zy ?_;refine ZAJ hmix xPA3 xPA7 (some 27) [([],none)] (by kernel_rfl) (by kernel_rfl) ?_;refine z_m ?_;refine z_m ?_;refine z_q ?_;refine z_f ?_;refine z_f ?_;refine z_f ?_;refine z_l ?_;refine z_f ?_;refine z_l ?_;refine ZAE rfl rfl rfl rfl rfl (fun _=>ZLt rfl rfl (by omega) (ZEe (by omega)) (by omega) (by omega)) ?_;refine z_y ?_;refine z_m ?_;refine z_q ?_;refine z_f ?_;refine z_f ?_;refine z_f ?_;refine z_l ?_;refine z_m ?_;refine z_q ?_;refine z_f ?_;refine z_l ?_;refine z_u ?_;refine ZAE rfl rfl rfl rfl rfl (fun _=>ZLt rfl rfl (by omega) (ZEe (by omega)) (by omega) (by omega)) ?_;refine z_y ?_;refine z_b ?_;refine z_q ?_;refine z_f ?_
  refine ZAH xPA7 (by kernel_rfl) rfl (ZAA rfl) rfl nb rfl (ZAz rfl rfl Tsz.h rfl rfl gSn rfl rfl rfl (fun h9 hU9=>?_));refine ZAP (ZAA rfl) nb' ?_;have hE9:=hU9.ext hEn hW1 (Nat.le_refl _);have gS9:=hU9.at';refine zy ?_;refine ZAB (ZAC rfl ⟨hE1.trans hE9,.inr ⟨hs0,h1.nx,rfl,?_,hE1.2.1⟩⟩);have e1:ZBi t s=Pk.work:=by unfold ZBi;rw[if_neg (by omega),hPk]
  have e2:ZEu t s=Pk.version:=by unfold ZEu;rw[if_neg (by omega),hPk]
  unfold ZCt ZSD ZDH;rw[e1,e2,hV,hEnd];exact gS9
abbrev xPC0:List Nat:=[0,1,0,4,12,28,60,127,255,511,1023,511,2559,6655,14847,31231,65535,131071,262143,524287,1048575,2097151,4194303,524287,8912895,33554431,67108863,134217727]
abbrev xPC1:List Nat:=[0,1,0,4,12,28,60,127,255,511,1023,511,2559,6655,14847,31231,65535,131071,262143,524287,1048575,2097151,4194303,8388607,524287,17301503,50855935,117964799,268435455,524287,537395199,2147483647,4294967295,8589934591]
abbrev xPC2:List Nat:=[0,1,0,4,12,28,63,127,255,511,1023,2047,4095,8191,4095,20479,53247,118783,262143,524287,1048575,2097151,4194303,8388607,4194303,20971519,54525951,121634815,255852543,536870911,1073741823,2147483647,4294967295,8589934591,17179869183,34359738367,4294967295,73014444031,274877906943,549755813887]
abbrev xPC3:List Nat:=[0,1,2,3,4,5,6,7,8,9,10,11,12,13,14,15,16,17,18,19,20,21,22,23,24,25,26,27,28,29,30,31,32,33,34,35,36,37]
abbrev xPC4:List Nat:=[0,1,2,3,4,5,6,7,8,9,10,11,12,13,14,15,16,17,18,19,20,21,22,23,24,25,26,27,28,29,30,31,32]
abbrev xPC5:List Nat:=[0,1,2,3,4,5,6,7,8,9,10,11,12,13,14,15,16,17,18,19,20,21,22,23,24,25,26,27,28,29,30]
abbrev xPC6:List Nat:=[0,1,2,3,4,5,6,7,8,9,10,11,12,13,14,15,16,17,18,19,20,21,22,23,24,25,26]
abbrev xPC7:List Nat:=[0,1,2,3,4,5,6,7,8,9,10,11,12,13,14,15,16,17,18,19,20,21,22,23,24]
abbrev xPC8:List Nat:=[0,1,2,3,4,5,6,7,8,9,10,11,12,13,14,15,16,17,18,19,20,21,22]
abbrev ZVU:List Nat:=[0,1,2,3,4,5,6,7,8,9,10,11]
abbrev ZVb:List Nat:=[0,1,3,0,8,31,63]
abbrev ZVQ:List Nat:=[0,1,3,7,15,0,32,96,224,480,992,2016,4064,8160,0,16384,49152,114688,245760,524256,1048544,2097120,4194303,8388607]
set_option maxHeartbeats 8000000
theorem ZBz {s a:Sp}{h:Heap}:Sv Tryz.prog 212 [.agg ⟨[i64 s.lo,i64 s.hi]⟩,.agg ⟨[i64 a.lo,i64 a.hi]⟩] h (RetP fun v h'=>v=.bool (decide (inSp s a))/\Ext h h'):=by
 refine ZA5 fun hw=>?_;refine ZAF Tryz.func212 rfl (by rw[Tryz.ntmps212];rfl) ?_;show Wc Tryz.prog ⟨212,17,none⟩ _ _ _ _ _;refine zy ?_;refine ZAg rfl rfl rfl fun h1 hE1 hW1 hg1 hn1=>?_;refine ZAg rfl rfl rfl fun h2 hE2 hW2 hg2 hn2=>?_;replace hg1:=hE2.get hg1;have hE:=hE1.trans hE2;generalize h.nx=b1 at *;generalize h1.nx=b2 at *;refine zy ?_;refine zC (ZDh rfl rfl) (fun h3=>?_) (fun h3=>?_)
 ·refine zy ?_
  refine zC (ZQr rfl rfl) (fun h4=>?_) (fun h4=>?_)
  ·refine zy ?_
   exact ZAB (ZAC rfl ⟨by rw[decide_eq_true (show inSp s a from⟨h3,h4⟩)];rfl,hE⟩)
  ·refine zy ?_
   exact ZAB (ZAC rfl ⟨by rw[decide_eq_false (fun e:inSp s a=>h4 e.2)];rfl,hE⟩)
 ·refine zy ?_
  exact ZAB (ZAC rfl ⟨by rw[decide_eq_false (fun e:inSp s a=>h3 e.1)];rfl,hE⟩)
theorem ZQ7 {a:Option Addr}{cap:Nat}{l:List ScL}{h:Heap}{g:FuncId}{first capv:List Value}{p:ScL->Bool}(hI:ZAM 4 ScLR h a l)(hbd:ZAa Tryz.prog g=true)
  (hp:∀h1,Ext h h1->∀row x,x∈l->ScLR h1 row x->Sv Tryz.prog g (first++([.agg ⟨row⟩]++capv)) h1 (RetP fun v h'=>v=.bool (p x)/\Ext h1 h')) (hlen:l.length<9223372036854775808) :
  Sv Tryz.prog 273 [.slice a l.length cap,.func (.func g) ⟨first⟩ ⟨capv⟩] h (RetP fun v h'=>v=i64 (ZCW p l)/\Ext h h'):=by
 refine ZAF Tryz.func273 rfl (by rw[Tryz.ntmps273];rfl) ?_;show Wc Tryz.prog ⟨273,19,none⟩ _ _ _ _ _;refine zy ?_
 refine ZAO (fun (k:Nat) m ds h'=>ds=[]/\Ext h h'/\k<=l.length/\(∀j (hj:j<l.length),j<k->p l[j]=false)/\AllK m [(0,.slice a l.length cap),(1,.func (.func g) ⟨first⟩ ⟨capv⟩),(7,i64 l.length),(8,i64 k)])
  (fun k=>l.length-k) 0 ?_ ?_
 ·exact⟨rfl,Ext.refl _,Nat.zero_le _,(fun _ _ hj=>by omega),rfl,rfl,rfl,rfl,trivial⟩
 rintro k m ds h' ⟨rfl,hE,hk,hno,hall⟩;refine Wc.le ?_ (Le.kn hall);refine zy ?_;refine zC (ZAf rfl rfl) (fun h1=>?_) (fun h1=>?_)
 ·have hk':k<l.length:=by simpa using h1
  obtain⟨b,o,oa,rfl,row,hrow,hma⟩:=hI k hk';have hrow2:=hE.row hrow;refine zy ?_;refine zD (A_ix Und.h Tsz.h rfl rfl) ?_;refine ZAh rfl rfl rfl rfl rfl hbd rfl rfl (hp h' hE _ _ (List.getElem_mem hk') hma) (fun hb h2 hE2=>?_) (fun hb h2 hE2=>?_)
  ·refine zy ?_
   refine ZAB (ZAC rfl ⟨?_,hE.trans hE2⟩);have:l.findIdx? p=some k:=by
    rw[List.findIdx?_eq_some_iff_getElem];exact⟨hk',hb,fun j hj=>by simp[hno j (by omega) hj]⟩
   simp[ZCW,this];rfl
  ·refine zy ?_
   refine⟨k+1,?_,rfl,hE.trans hE2,hk',?_,rfl,rfl,rfl,rfl,trivial⟩
   ·show l.length-(k+1)<l.length-k;omega
   ·intro j hj hlt
    rcases Nat.lt_or_ge j k with g|g
    ·exact hno j hj g
    ·have:j=k:=by omega
     subst this;exact hb
 ·have hk2:k=l.length:=by omega
  subst hk2;refine zy ?_;refine ZAB (ZAC rfl ⟨?_,hE⟩);have:l.findIdx? p=none:=by
   rw[List.findIdx?_eq_none_iff];intro x hx;obtain⟨j,hj,rfl⟩:=List.getElem_of_mem hx;exact hno j hj hj
  simp[ZCW,this];rfl
theorem ZG4 {a:Option Addr}{cap:Nat}{l:List ScL}{h:Heap}{g:FuncId}{first capv:List Value}{p:ScL->Bool}(hI:ZAM 4 ScLR h a l)(hbd:ZAa Tryz.prog g=true)
  (hp:∀h1,Ext h h1->∀row x,x∈l->ScLR h1 row x->Sv Tryz.prog g (first++([.agg ⟨row⟩]++capv)) h1 (RetP fun v h'=>v=.bool (p x)/\Ext h1 h')) (hlen:l.length<9223372036854775808) :
  Sv Tryz.prog 214 [.slice a l.length cap,.func (.func g) ⟨first⟩ ⟨capv⟩] h (RetP fun v h'=>v=.bool (l.any p)/\Ext h h'):=by
 refine ZAF Tryz.func214 rfl (by rw[Tryz.ntmps214];rfl) ?_;show Wc Tryz.prog ⟨214,9,none⟩ _ _ _ _ _;refine zy ?_;refine zW (ZQ7 hI hbd hp hlen) fun h1 hE1=>?_;refine zy ?_;refine zC (ZDh rfl rfl) (fun hb=>?_) (fun hb=>?_)
 ·refine zy ?_
  exact ZAB (ZAC rfl ⟨by rw[<-ZBb,decide_eq_true hb];rfl,hE1⟩)
 ·refine zy ?_
  exact ZAB (ZAC rfl ⟨by rw[<-ZBb,decide_eq_false hb];rfl,hE1⟩)
theorem ZPr {a:Option Addr}{cap:Nat}{l:List ScK}{h:Heap}{g:FuncId}{first capv:List Value}{p:ScK->Bool}(hI:ZAM 4 ScKR h a l)(hbd:ZAa Tryz.prog g=true)
  (hp:∀h1,Ext h h1->∀row x,x∈l->ScKR h1 row x->Sv Tryz.prog g (first++([.agg ⟨row⟩]++capv)) h1 (RetP fun v h'=>v=.bool (p x)/\Ext h1 h')) (hlen:l.length<9223372036854775808) :
  Sv Tryz.prog 274 [.slice a l.length cap,.func (.func g) ⟨first⟩ ⟨capv⟩] h (RetP fun v h'=>v=i64 (ZCW p l)/\Ext h h'):=by
 refine ZAF Tryz.func274 rfl (by rw[Tryz.ntmps274];rfl) ?_;show Wc Tryz.prog ⟨274,19,none⟩ _ _ _ _ _;refine zy ?_
 refine ZAO (fun (k:Nat) m ds h'=>ds=[]/\Ext h h'/\k<=l.length/\(∀j (hj:j<l.length),j<k->p l[j]=false)/\AllK m [(0,.slice a l.length cap),(1,.func (.func g) ⟨first⟩ ⟨capv⟩),(7,i64 l.length),(8,i64 k)])
  (fun k=>l.length-k) 0 ?_ ?_
 ·exact⟨rfl,Ext.refl _,Nat.zero_le _,(fun _ _ hj=>by omega),rfl,rfl,rfl,rfl,trivial⟩
 rintro k m ds h' ⟨rfl,hE,hk,hno,hall⟩;refine Wc.le ?_ (Le.kn hall);refine zy ?_;refine zC (ZAf rfl rfl) (fun h1=>?_) (fun h1=>?_)
 ·have hk':k<l.length:=by simpa using h1
  obtain⟨b,o,oa,rfl,row,hrow,hma⟩:=hI k hk';have hrow2:=hE.row hrow;refine zy ?_;refine zD (A_ix Und.h Tsz.h rfl rfl) ?_;refine ZAh rfl rfl rfl rfl rfl hbd rfl rfl (hp h' hE _ _ (List.getElem_mem hk') hma) (fun hb h2 hE2=>?_) (fun hb h2 hE2=>?_)
  ·refine zy ?_
   refine ZAB (ZAC rfl ⟨?_,hE.trans hE2⟩);have:l.findIdx? p=some k:=by
    rw[List.findIdx?_eq_some_iff_getElem];exact⟨hk',hb,fun j hj=>by simp[hno j (by omega) hj]⟩
   simp[ZCW,this];rfl
  ·refine zy ?_
   refine⟨k+1,?_,rfl,hE.trans hE2,hk',?_,rfl,rfl,rfl,rfl,trivial⟩
   ·show l.length-(k+1)<l.length-k;omega
   ·intro j hj hlt
    rcases Nat.lt_or_ge j k with g|g
    ·exact hno j hj g
    ·have:j=k:=by omega
     subst this;exact hb
 ·have hk2:k=l.length:=by omega
  subst hk2;refine zy ?_;refine ZAB (ZAC rfl ⟨?_,hE⟩);have:l.findIdx? p=none:=by
   rw[List.findIdx?_eq_none_iff];intro x hx;obtain⟨j,hj,rfl⟩:=List.getElem_of_mem hx;exact hno j hj hj
  simp[ZCW,this];rfl
theorem ZG6 {a:Option Addr}{cap:Nat}{l:List ScK}{h:Heap}{g:FuncId}{first capv:List Value}{p:ScK->Bool}(hI:ZAM 4 ScKR h a l)(hbd:ZAa Tryz.prog g=true)
  (hp:∀h1,Ext h h1->∀row x,x∈l->ScKR h1 row x->Sv Tryz.prog g (first++([.agg ⟨row⟩]++capv)) h1 (RetP fun v h'=>v=.bool (p x)/\Ext h1 h')) (hlen:l.length<9223372036854775808) :
  Sv Tryz.prog 217 [.slice a l.length cap,.func (.func g) ⟨first⟩ ⟨capv⟩] h (RetP fun v h'=>v=.bool (l.any p)/\Ext h h'):=by
 refine ZAF Tryz.func217 rfl (by rw[Tryz.ntmps217];rfl) ?_;show Wc Tryz.prog ⟨217,9,none⟩ _ _ _ _ _;refine zy ?_;refine zW (ZPr hI hbd hp hlen) fun h1 hE1=>?_;refine zy ?_;refine zC (ZDh rfl rfl) (fun hb=>?_) (fun hb=>?_)
 ·refine zy ?_
  exact ZAB (ZAC rfl ⟨by rw[<-ZBb,decide_eq_true hb];rfl,hE1⟩)
 ·refine zy ?_
  exact ZAB (ZAC rfl ⟨by rw[<-ZBb,decide_eq_false hb];rfl,hE1⟩)
def rOk (W V:List UInt8)(land:Int)(D:Sp)(r:ScR):Bool:=decide (r.work=W/\(r.version=[]\/r.version=V)/\r.land=land/\inSp D r.days)
theorem ZQd (t:ScT)(s:ScS):ZB8 t s=t.rights.any (rOk (ZBi t s) (ZEu t s) (ZA1 t s).land (ZDH t s)):=rfl
theorem ZCt.row {h:Heap}{b bH:Nat}{t:ScT}{s:ScS}(a:ZCt h b bH t s):h.get b=some (.cells [i64 s.venue,i64 s.print,i64 s.pack,i64 s.minute,i64 s.speed,i64 s.worth,.pointer (some ⟨bH,0,none⟩),str (ZBi t s),str (ZEu t s),
 str (ZA1 t s).name,i64 (ZA1 t s).land,i64 (ZA1 t s).proj,i64 (ZA1 t s).speeds.lo,i64 (ZA1 t s).speeds.hi,i64 (ZA1 t s).change,i64 (ZA1 t s).spool,i64 (ZA1 t s).turn,.bool (ZA1 t s).digital,i64 (endS t s),i64 (ZDH t s).lo,i64 (ZDH t s).hi] 234 false):=a
set_option maxHeartbeats 2000000 in
theorem ZTJ {bS bH:Nat}{t:ScT}{s:ScS}{h:Heap}(hS:ZCt h bS bH t s)(hH:ZDp h bH t)(hO:ScOk t):Sv Tryz.prog 142 [.pointer (some ⟨bS,0,none⟩)] h (RetP fun v h'=>v=i64 (if ZB8 t s=false then 211 else 0)/\Ext h h'):=by
 obtain⟨row,ag,cg,aw,cw,ht,hgH,-,-⟩:=hH;obtain⟨al,cl,at',ct,a1,c1',a2,c2',a3,c3',a4,c4',a5,c5',a6,c6',rfl,m1,m2,m3,m4,m5,m6,m7,m8⟩:=ht;replace hgH:h.get bH=some (.cells [i64 t.first,.slice al t.lands.length cl,.slice at' t.travel.length ct,.slice a1 t.venues.length c1',.slice a2 t.rights.length c2',.slice a3 t.prints.length c3',.slice a4 t.packs.length c4',.slice a5 t.keys.length c5',.slice a6 t.loans.length c6',.slice ag (ZBq t).1.length cg,.slice aw (ZBq t).2.length cw] 227 false):=hgH;have hgS:=hS.row;have q1:=hO.rights1;rw[ZQd];generalize ZBi t s=W at *;generalize ZEu t s=V at *;generalize ZDH t s=D at *
 generalize (ZA1 t s).land=land at *;refine ZA5 fun hw=>?_;refine ZAF Tryz.func142 rfl (by rw[Tryz.ntmps142];rfl) ?_;show Wc Tryz.prog ⟨142,60,none⟩ _ _ _ _ _;refine zy ?_
 refine ZAO (fun (k:Nat) m ds h'=>ds=[]/\Ext h h'/\k<=t.rights.length/\(∀j (hj:j<t.rights.length),j<k->rOk W V land D t.rights[j]=false)/\AllK m [(0,.pointer (some ⟨bS,0,none⟩)),(13,.slice a2 t.rights.length c2'),(14,i64 t.rights.length),(15,i64 k)])
  (fun k=>t.rights.length-k) 0 ?_ ?_
 ·exact⟨rfl,Ext.refl _,Nat.zero_le _,(fun _ _ hj=>by omega),rfl,rfl,rfl,rfl,trivial⟩
 rintro k m ds h3 ⟨rfl,hE3,hk,hno,hall⟩;refine ZDF fun hw3=>?_;refine Wc.le ?_ (Le.kn hall);refine zy ?_;refine zC (ZAf rfl rfl) (fun h4=>?_) (fun h4=>?_);rotate_left
 ·refine zy ?_
  refine ZAB (ZAC rfl ⟨?_,hE3⟩);have:t.rights.any (rOk W V land D)=false:=by
   rw[List.any_eq_false];intro x hx;obtain⟨j,hj,rfl⟩:=List.getElem_of_mem hx;rw[hno j hj (by omega)];simp
  rw[this,if_pos rfl];rfl
 have hk':k<t.rights.length:=by simpa using h4
 have hyes:rOk W V land D t.rights[k]=true->t.rights.any (rOk W V land D)=true:=fun e=>List.any_eq_true.2 ⟨_,List.getElem_mem hk',e⟩
 have hnext:rOk W V land D t.rights[k]=false->∀j (hj:j<t.rights.length),j<k+1->rOk W V land D t.rights[j]=false:=fun e j hj hlt=>by
  rcases Nat.lt_or_ge j k with g|g
  ·exact hno j hj g
  ·have:j=k:=by omega
   subst this;exact e
 obtain⟨b,o,oa,rfl,rw',hrow,hma⟩:=m4 k hk';have hrow3:=hE3.row hrow;have hgS3:=hE3.get hgS;generalize hmk:t.rights[k]=r at *;obtain rfl:=hma;refine zy ?_;refine zD (A_ix Und.h Tsz.h rfl rfl) ?_;refine ZAK rfl rfl Zr.h Tsz.h rfl (fun _=>rfl) rfl rfl rfl fun h5 hE5 hW5 hg5 hn5=>?_;have hE6:=hE3.trans hE5;have hgS5:=hE5.get hgS3;generalize h3.nx=b5 at *;clear hgS3 hrow3 hn5 hE5;refine zy ?_
 by_cases cw:r.work=W
 ·by_cases ce:r.version=[]
  ·skip
   by_cases cl:r.land=land
   ·by_cases cd:inSp D r.days
    ·refine ZAJ hmix xPC2 xPC3 (some 38) [([39],none)] (by kernel_rfl) (by kernel_rfl) ?_
     refine z_f ?_;refine z_l ?_;refine z_m ?_;refine z_q ?_;refine z_f ?_;refine z_l ?_;refine ZAE rfl rfl rfl rfl rfl (fun _=>A_tt cw (ZAU rfl rfl)) ?_;refine z_m ?_;refine g_f ?_;refine g_l ?_
     first|refine ZAb rfl rfl rfl rfl ?_|refine ZAE rfl rfl rfl rfl rfl (fun _=>A_tt ce (ZAU rfl rfl)) ?_
     refine g_m ?_;refine g_f ?_;refine g_l ?_;refine g_m ?_;refine g_q ?_;refine g_f ?_;refine g_l ?_;refine z_o ?_;refine g_p ?_;refine z_p ?_;refine z_m ?_;refine g_f ?_;refine g_l ?_;refine g_m ?_;refine g_q ?_;refine g_f ?_;refine g_f ?_;refine g_l ?_
     first|refine ZAb rfl rfl rfl rfl ?_|refine ZAE rfl rfl rfl rfl rfl (fun _=>A_tt cl (ZAs rfl rfl)) ?_
     refine z_p ?_;refine z_m ?_;refine g_m ?_;refine g_q ?_;refine g_f ?_;refine g_r ?_;refine g_f ?_;refine g_r ?_;refine ZAH xPC3 (by kernel_rfl) rfl (ZAA rfl) rfl nb rfl (ZAy rfl rfl rfl rfl rfl Bod.h (ZNL cd (ZBz (s:=D) (a:=r.days))) (fun h7 hE7=>?_));refine z_p ?_;refine ZAP (ZAA rfl) nb' ?_;refine zy ?_;exact ZAB (ZAC rfl ⟨by rw[hyes (decide_eq_true ⟨cw,.inl ce,cl,cd⟩)];rfl,hE6.trans hE7⟩)
    ·refine ZAJ hmix xPC2 xPC3 (some 38) [([39],none)] (by kernel_rfl) (by kernel_rfl) ?_
     refine z_f ?_;refine z_l ?_;refine z_m ?_;refine z_q ?_;refine z_f ?_;refine z_l ?_;refine ZAE rfl rfl rfl rfl rfl (fun _=>A_tt cw (ZAU rfl rfl)) ?_;refine z_m ?_;refine g_f ?_;refine g_l ?_
     first|refine ZAb rfl rfl rfl rfl ?_|refine ZAE rfl rfl rfl rfl rfl (fun _=>A_tt ce (ZAU rfl rfl)) ?_
     refine g_m ?_;refine g_f ?_;refine g_l ?_;refine g_m ?_;refine g_q ?_;refine g_f ?_;refine g_l ?_;refine z_o ?_;refine g_p ?_;refine z_p ?_;refine z_m ?_;refine g_f ?_;refine g_l ?_;refine g_m ?_;refine g_q ?_;refine g_f ?_;refine g_f ?_;refine g_l ?_
     first|refine ZAb rfl rfl rfl rfl ?_|refine ZAE rfl rfl rfl rfl rfl (fun _=>A_tt cl (ZAs rfl rfl)) ?_
     refine z_p ?_;refine z_m ?_;refine g_m ?_;refine g_q ?_;refine g_f ?_;refine g_r ?_;refine g_f ?_;refine g_r ?_;refine ZAH xPC3 (by kernel_rfl) rfl (ZAA rfl) rfl nb rfl (ZAy rfl rfl rfl rfl rfl Bod.h (ZNg cd (ZBz (s:=D) (a:=r.days))) (fun h7 hE7=>?_));refine z_p ?_;refine ZAP (ZAA rfl) nb' ?_;have hr0:rOk W V land D r=false:=decide_eq_false (fun e=>cd e.2.2.2);refine zy ?_;refine⟨k+1,(by show t.rights.length-(k+1)<t.rights.length-k;omega),rfl,hE6.trans hE7,hk',hnext hr0,rfl,rfl,rfl,rfl,trivial⟩
   ·refine ZAJ hmix xPC2 xPC3 (some 38) [([39],none)] (by kernel_rfl) (by kernel_rfl) ?_
    refine z_f ?_;refine z_l ?_;refine z_m ?_;refine z_q ?_;refine z_f ?_;refine z_l ?_;refine ZAE rfl rfl rfl rfl rfl (fun _=>A_tt cw (ZAU rfl rfl)) ?_;refine z_m ?_;refine g_f ?_;refine g_l ?_
    first|refine ZAb rfl rfl rfl rfl ?_|refine ZAE rfl rfl rfl rfl rfl (fun _=>A_tt ce (ZAU rfl rfl)) ?_
    refine g_m ?_;refine g_f ?_;refine g_l ?_;refine g_m ?_;refine g_q ?_;refine g_f ?_;refine g_l ?_;refine z_o ?_;refine g_p ?_;refine z_p ?_;refine z_m ?_;refine g_f ?_;refine g_l ?_;refine g_m ?_;refine g_q ?_;refine g_f ?_;refine g_f ?_;refine g_l ?_
    first|refine ZAb rfl rfl rfl rfl ?_|refine ZAE rfl rfl rfl rfl rfl (fun _=>A_ff cl (ZAs rfl rfl)) ?_
    refine z_p ?_;refine z_m ?_;refine g_m ?_;refine g_q ?_;refine g_f ?_;refine g_r ?_;refine g_f ?_;refine g_r ?_;refine ZAH xPC3 (by kernel_rfl) rfl (ZAA rfl) rfl nb rfl (ZBf rfl ?_);refine z_p ?_;refine ZAP (ZAA rfl) nb' ?_;have hr0:rOk W V land D r=false:=decide_eq_false (fun e=>cl e.2.2.1);refine zy ?_;refine⟨k+1,(by show t.rights.length-(k+1)<t.rights.length-k;omega),rfl,hE6,hk',hnext hr0,rfl,rfl,rfl,rfl,trivial⟩
  ·by_cases cv:r.version=V
   ·skip
    by_cases cl:r.land=land
    ·by_cases cd:inSp D r.days
     ·refine ZAJ hmix xPC2 xPC3 (some 38) [([39],none)] (by kernel_rfl) (by kernel_rfl) ?_
      refine z_f ?_;refine z_l ?_;refine z_m ?_;refine z_q ?_;refine z_f ?_;refine z_l ?_;refine ZAE rfl rfl rfl rfl rfl (fun _=>A_tt cw (ZAU rfl rfl)) ?_;refine z_m ?_;refine g_f ?_;refine g_l ?_
      first|refine ZAb rfl rfl rfl rfl ?_|refine ZAE rfl rfl rfl rfl rfl (fun _=>A_ff ce (ZAU rfl rfl)) ?_
      refine g_m ?_;refine g_f ?_;refine g_l ?_;refine g_m ?_;refine g_q ?_;refine g_f ?_;refine g_l ?_
      first|refine ZAb rfl rfl rfl rfl ?_|refine ZAE rfl rfl rfl rfl rfl (fun _=>A_tt cv (ZAU rfl rfl)) ?_
      refine g_p ?_;refine z_p ?_;refine z_m ?_;refine g_f ?_;refine g_l ?_;refine g_m ?_;refine g_q ?_;refine g_f ?_;refine g_f ?_;refine g_l ?_
      first|refine ZAb rfl rfl rfl rfl ?_|refine ZAE rfl rfl rfl rfl rfl (fun _=>A_tt cl (ZAs rfl rfl)) ?_
      refine z_p ?_;refine z_m ?_;refine g_m ?_;refine g_q ?_;refine g_f ?_;refine g_r ?_;refine g_f ?_;refine g_r ?_;refine ZAH xPC3 (by kernel_rfl) rfl (ZAA rfl) rfl nb rfl (ZAy rfl rfl rfl rfl rfl Bod.h (ZNL cd (ZBz (s:=D) (a:=r.days))) (fun h7 hE7=>?_));refine z_p ?_;refine ZAP (ZAA rfl) nb' ?_;refine zy ?_;exact ZAB (ZAC rfl ⟨by rw[hyes (decide_eq_true ⟨cw,.inr cv,cl,cd⟩)];rfl,hE6.trans hE7⟩)
     ·refine ZAJ hmix xPC2 xPC3 (some 38) [([39],none)] (by kernel_rfl) (by kernel_rfl) ?_
      refine z_f ?_;refine z_l ?_;refine z_m ?_;refine z_q ?_;refine z_f ?_;refine z_l ?_;refine ZAE rfl rfl rfl rfl rfl (fun _=>A_tt cw (ZAU rfl rfl)) ?_;refine z_m ?_;refine g_f ?_;refine g_l ?_
      first|refine ZAb rfl rfl rfl rfl ?_|refine ZAE rfl rfl rfl rfl rfl (fun _=>A_ff ce (ZAU rfl rfl)) ?_
      refine g_m ?_;refine g_f ?_;refine g_l ?_;refine g_m ?_;refine g_q ?_;refine g_f ?_;refine g_l ?_
      first|refine ZAb rfl rfl rfl rfl ?_|refine ZAE rfl rfl rfl rfl rfl (fun _=>A_tt cv (ZAU rfl rfl)) ?_
      refine g_p ?_;refine z_p ?_;refine z_m ?_;refine g_f ?_;refine g_l ?_;refine g_m ?_;refine g_q ?_;refine g_f ?_;refine g_f ?_;refine g_l ?_
      first|refine ZAb rfl rfl rfl rfl ?_|refine ZAE rfl rfl rfl rfl rfl (fun _=>A_tt cl (ZAs rfl rfl)) ?_
      refine z_p ?_;refine z_m ?_;refine g_m ?_;refine g_q ?_;refine g_f ?_;refine g_r ?_;refine g_f ?_;refine g_r ?_;refine ZAH xPC3 (by kernel_rfl) rfl (ZAA rfl) rfl nb rfl (ZAy rfl rfl rfl rfl rfl Bod.h (ZNg cd (ZBz (s:=D) (a:=r.days))) (fun h7 hE7=>?_));refine z_p ?_;refine ZAP (ZAA rfl) nb' ?_;have hr0:rOk W V land D r=false:=decide_eq_false (fun e=>cd e.2.2.2);refine zy ?_;refine⟨k+1,(by show t.rights.length-(k+1)<t.rights.length-k;omega),rfl,hE6.trans hE7,hk',hnext hr0,rfl,rfl,rfl,rfl,trivial⟩
    ·refine ZAJ hmix xPC2 xPC3 (some 38) [([39],none)] (by kernel_rfl) (by kernel_rfl) ?_
     refine z_f ?_;refine z_l ?_;refine z_m ?_;refine z_q ?_;refine z_f ?_;refine z_l ?_;refine ZAE rfl rfl rfl rfl rfl (fun _=>A_tt cw (ZAU rfl rfl)) ?_;refine z_m ?_;refine g_f ?_;refine g_l ?_
     first|refine ZAb rfl rfl rfl rfl ?_|refine ZAE rfl rfl rfl rfl rfl (fun _=>A_ff ce (ZAU rfl rfl)) ?_
     refine g_m ?_;refine g_f ?_;refine g_l ?_;refine g_m ?_;refine g_q ?_;refine g_f ?_;refine g_l ?_
     first|refine ZAb rfl rfl rfl rfl ?_|refine ZAE rfl rfl rfl rfl rfl (fun _=>A_tt cv (ZAU rfl rfl)) ?_
     refine g_p ?_;refine z_p ?_;refine z_m ?_;refine g_f ?_;refine g_l ?_;refine g_m ?_;refine g_q ?_;refine g_f ?_;refine g_f ?_;refine g_l ?_
     first|refine ZAb rfl rfl rfl rfl ?_|refine ZAE rfl rfl rfl rfl rfl (fun _=>A_ff cl (ZAs rfl rfl)) ?_
     refine z_p ?_;refine z_m ?_;refine g_m ?_;refine g_q ?_;refine g_f ?_;refine g_r ?_;refine g_f ?_;refine g_r ?_;refine ZAH xPC3 (by kernel_rfl) rfl (ZAA rfl) rfl nb rfl (ZBf rfl ?_);refine z_p ?_;refine ZAP (ZAA rfl) nb' ?_;have hr0:rOk W V land D r=false:=decide_eq_false (fun e=>cl e.2.2.1);refine zy ?_;refine⟨k+1,(by show t.rights.length-(k+1)<t.rights.length-k;omega),rfl,hE6,hk',hnext hr0,rfl,rfl,rfl,rfl,trivial⟩
   ·refine ZAJ hmix xPC2 xPC3 (some 38) [([39],none)] (by kernel_rfl) (by kernel_rfl) ?_
    refine z_f ?_;refine z_l ?_;refine z_m ?_;refine z_q ?_;refine z_f ?_;refine z_l ?_;refine ZAE rfl rfl rfl rfl rfl (fun _=>A_tt cw (ZAU rfl rfl)) ?_;refine z_m ?_;refine g_f ?_;refine g_l ?_
    first|refine ZAb rfl rfl rfl rfl ?_|refine ZAE rfl rfl rfl rfl rfl (fun _=>A_ff ce (ZAU rfl rfl)) ?_
    refine g_m ?_;refine g_f ?_;refine g_l ?_;refine g_m ?_;refine g_q ?_;refine g_f ?_;refine g_l ?_
    first|refine ZAb rfl rfl rfl rfl ?_|refine ZAE rfl rfl rfl rfl rfl (fun _=>A_ff cv (ZAU rfl rfl)) ?_
    refine g_p ?_;refine z_p ?_;refine z_m ?_;refine g_f ?_;refine g_l ?_;refine g_m ?_;refine g_q ?_;refine g_f ?_;refine g_f ?_;refine g_l ?_;refine z_o ?_;refine z_p ?_;refine z_m ?_;refine g_m ?_;refine g_q ?_;refine g_f ?_;refine g_r ?_;refine g_f ?_;refine g_r ?_;refine ZAH xPC3 (by kernel_rfl) rfl (ZAA rfl) rfl nb rfl (ZBf rfl ?_);refine z_p ?_;refine ZAP (ZAA rfl) nb' ?_;have hr0:rOk W V land D r=false:=decide_eq_false (fun e=>e.2.1.elim ce cv);refine zy ?_;refine⟨k+1,(by show t.rights.length-(k+1)<t.rights.length-k;omega),rfl,hE6,hk',hnext hr0,rfl,rfl,rfl,rfl,trivial⟩
 ·refine ZAJ hmix xPC2 xPC3 (some 38) [([39],none)] (by kernel_rfl) (by kernel_rfl) ?_
  refine z_f ?_;refine z_l ?_;refine z_m ?_;refine z_q ?_;refine z_f ?_;refine z_l ?_;refine ZAE rfl rfl rfl rfl rfl (fun _=>A_ff cw (ZAU rfl rfl)) ?_;refine z_m ?_;refine g_f ?_;refine g_l ?_;refine z_o ?_;refine g_m ?_;refine g_f ?_;refine g_l ?_;refine g_m ?_;refine g_q ?_;refine g_f ?_;refine g_l ?_;refine z_o ?_;refine g_p ?_;refine z_p ?_;refine z_m ?_;refine g_f ?_;refine g_l ?_;refine g_m ?_;refine g_q ?_;refine g_f ?_;refine g_f ?_;refine g_l ?_;refine z_o ?_;refine z_p ?_;refine z_m ?_;refine g_m ?_;refine g_q ?_;refine g_f ?_;refine g_r ?_;refine g_f ?_;refine g_r ?_;refine ZAH xPC3 (by kernel_rfl) rfl (ZAA rfl) rfl nb rfl (ZBf rfl ?_)
  refine z_p ?_;refine ZAP (ZAA rfl) nb' ?_;have hr0:rOk W V land D r=false:=decide_eq_false (fun e=>cw e.1);refine zy ?_;refine⟨k+1,(by show t.rights.length-(k+1)<t.rights.length-k;omega),rfl,hE6,hk',hnext hr0,rfl,rfl,rfl,rfl,trivial⟩
def lOk (s:ScS)(D:Sp)(l:ScL):Bool:=decide (l.print=s.print/\l.venue=s.venue/\inSp D l.days)
theorem ZR8 (t:ScT)(s:ScS):ZUQ t s=(ZBq t).1.any (lOk s (ZDH t s)):=rfl
set_option maxHeartbeats 2000000 in
theorem ZTE {bS bH bP:Nat}{t:ScT}{s:ScS}{x:ScL}{row:List Value}{h:Heap}(hS:ZCt h bS bH t s)(hP:h.get bP=some (.cells [.pointer (some ⟨bS,0,none⟩)] 174 false))(hx:ScLR h row x):Sv Tryz.prog 213 ([]++([.agg ⟨row⟩]++[.pointer (some ⟨bP,0,none⟩)])) h (RetP fun v h'=>v=.bool (lOk s (ZDH t s) x)/\Ext h h'):=by
 obtain rfl:=hx;have hgS:=hS.row;generalize ZDH t s=D at *;refine ZA5 fun hw=>?_;refine ZAF Tryz.func213 rfl (by rw[Tryz.ntmps213];rfl) ?_;show Wc Tryz.prog ⟨213,31,none⟩ _ _ _ _ _;refine zy ?_;refine ZAg rfl rfl rfl fun h1 hE1 hW1 hg1 hn1=>?_;replace hgS:=hE1.get hgS;replace hP:=hE1.get hP;generalize h.nx=b1 at *;refine zy ?_
 by_cases c1:x.print=s.print
 ·by_cases c2:x.venue=s.venue
  ·by_cases c3:inSp D x.days
   ·refine ZAJ hmix xPC0 xPC7 (some 25) [([26],(some 27)),([],none)] (by kernel_rfl) (by kernel_rfl) ?_
    refine z_f ?_;refine z_l ?_;refine z_l ?_;refine z_q ?_;refine z_f ?_;refine z_f ?_;refine z_l ?_;refine ZAE rfl rfl rfl rfl rfl (fun _=>A_tt c1 (ZAs rfl rfl)) ?_;refine z_m ?_;refine g_f ?_;refine g_l ?_;refine g_l ?_;refine g_q ?_;refine g_f ?_;refine g_f ?_;refine g_l ?_
    first|refine ZAb rfl rfl rfl rfl ?_|refine ZAE rfl rfl rfl rfl rfl (fun _=>A_tt c2 (ZAs rfl rfl)) ?_
    refine z_p ?_;refine z_m ?_;refine g_l ?_;refine g_q ?_;refine g_f ?_;refine g_r ?_;refine g_f ?_;refine g_r ?_;refine ZAH xPC7 (by kernel_rfl) rfl (ZAA rfl) rfl nb rfl (ZAy rfl rfl rfl rfl rfl Bod.h (ZNL c3 (ZBz (s:=D) (a:=x.days))) (fun h2 hE2=>?_));refine z_p ?_;refine ZAH xPC6 (by kernel_rfl) rfl (ZAA rfl) rfl nb rfl (ZBW rfl rfl (ZAS rfl) ?_);refine ZAP (ZAA rfl) nb' ?_;refine zy ?_;exact ZAB (ZAC rfl ⟨by rw[show lOk s D x=true from decide_eq_true ⟨c1,c2,c3⟩];rfl,hE1.trans hE2⟩)
   ·refine ZAJ hmix xPC0 xPC7 (some 25) [([26],(some 27)),([],none)] (by kernel_rfl) (by kernel_rfl) ?_
    refine z_f ?_;refine z_l ?_;refine z_l ?_;refine z_q ?_;refine z_f ?_;refine z_f ?_;refine z_l ?_;refine ZAE rfl rfl rfl rfl rfl (fun _=>A_tt c1 (ZAs rfl rfl)) ?_;refine z_m ?_;refine g_f ?_;refine g_l ?_;refine g_l ?_;refine g_q ?_;refine g_f ?_;refine g_f ?_;refine g_l ?_
    first|refine ZAb rfl rfl rfl rfl ?_|refine ZAE rfl rfl rfl rfl rfl (fun _=>A_tt c2 (ZAs rfl rfl)) ?_
    refine z_p ?_;refine z_m ?_;refine g_l ?_;refine g_q ?_;refine g_f ?_;refine g_r ?_;refine g_f ?_;refine g_r ?_;refine ZAH xPC7 (by kernel_rfl) rfl (ZAA rfl) rfl nb rfl (ZAy rfl rfl rfl rfl rfl Bod.h (ZNg c3 (ZBz (s:=D) (a:=x.days))) (fun h2 hE2=>?_));refine z_p ?_;refine ZAH xPC6 (by kernel_rfl) rfl (ZAA rfl) rfl nb rfl (ZBW rfl rfl (ZAS rfl) ?_);refine ZAP (ZAA rfl) nb' ?_;refine zy ?_;exact ZAB (ZAC rfl ⟨by rw[show lOk s D x=false from decide_eq_false (fun e=>c3 e.2.2)];rfl,hE1.trans hE2⟩)
  ·refine ZAJ hmix xPC0 xPC7 (some 25) [([26],(some 27)),([],none)] (by kernel_rfl) (by kernel_rfl) ?_
   refine z_f ?_;refine z_l ?_;refine z_l ?_;refine z_q ?_;refine z_f ?_;refine z_f ?_;refine z_l ?_;refine ZAE rfl rfl rfl rfl rfl (fun _=>A_tt c1 (ZAs rfl rfl)) ?_;refine z_m ?_;refine g_f ?_;refine g_l ?_;refine g_l ?_;refine g_q ?_;refine g_f ?_;refine g_f ?_;refine g_l ?_
   first|refine ZAb rfl rfl rfl rfl ?_|refine ZAE rfl rfl rfl rfl rfl (fun _=>A_ff c2 (ZAs rfl rfl)) ?_
   refine z_p ?_;refine z_m ?_;refine g_l ?_;refine g_q ?_;refine g_f ?_;refine g_r ?_;refine g_f ?_;refine g_r ?_;refine ZAH xPC7 (by kernel_rfl) rfl (ZAA rfl) rfl nb rfl (ZBf rfl ?_);refine z_p ?_;refine ZAH xPC6 (by kernel_rfl) rfl (ZAA rfl) rfl nb rfl (ZBW rfl rfl (ZAS rfl) ?_);refine ZAP (ZAA rfl) nb' ?_;refine zy ?_;exact ZAB (ZAC rfl ⟨by rw[show lOk s D x=false from decide_eq_false (fun e=>c2 e.2.1)];rfl,hE1⟩)
 ·refine ZAJ hmix xPC0 xPC7 (some 25) [([26],(some 27)),([],none)] (by kernel_rfl) (by kernel_rfl) ?_
  refine z_f ?_;refine z_l ?_;refine z_l ?_;refine z_q ?_;refine z_f ?_;refine z_f ?_;refine z_l ?_;refine ZAE rfl rfl rfl rfl rfl (fun _=>A_ff c1 (ZAs rfl rfl)) ?_;refine z_m ?_;refine g_f ?_;refine g_l ?_;refine g_l ?_;refine g_q ?_;refine g_f ?_;refine g_f ?_;refine g_l ?_;refine z_o ?_;refine z_p ?_;refine z_m ?_;refine g_l ?_;refine g_q ?_;refine g_f ?_;refine g_r ?_;refine g_f ?_;refine g_r ?_;refine ZAH xPC7 (by kernel_rfl) rfl (ZAA rfl) rfl nb rfl (ZBf rfl ?_);refine z_p ?_;refine ZAH xPC6 (by kernel_rfl) rfl (ZAA rfl) rfl nb rfl (ZBW rfl rfl (ZAS rfl) ?_);refine ZAP (ZAA rfl) nb' ?_;refine zy ?_
  exact ZAB (ZAC rfl ⟨by rw[show lOk s D x=false from decide_eq_false (fun e=>c1 e.1)];rfl,hE1⟩)
def kOk (s:ScS)(D:Sp)(k:ScK):Bool:=decide (k.pack=s.pack/\k.venue=s.venue/\inSp D k.window)
theorem ZUN (t:ScT)(s:ScS):keyB t s=t.keys.any (kOk s ⟨s.minute,endS t s⟩):=rfl
set_option maxHeartbeats 2000000 in
theorem ZMx {bS bH bP:Nat}{t:ScT}{s:ScS}{x:ScK}{row:List Value}{h:Heap}(hS:ZCt h bS bH t s)(hP:h.get bP=some (.cells [.pointer (some ⟨bS,0,none⟩)] 174 false))(hx:ScKR h row x):Sv Tryz.prog 216 ([]++([.agg ⟨row⟩]++[.pointer (some ⟨bP,0,none⟩)])) h (RetP fun v h'=>v=.bool (kOk s ⟨s.minute,endS t s⟩ x)/\Ext h h'):=by
 obtain rfl:=hx;have hgS:=hS.row;generalize endS t s=E at *;refine ZA5 fun hw=>?_;refine ZAF Tryz.func216 rfl (by rw[Tryz.ntmps216];rfl) ?_;show Wc Tryz.prog ⟨216,37,none⟩ _ _ _ _ _;refine zy ?_;refine ZAg rfl rfl rfl fun h1 hE1 hW1 hg1 hn1=>?_;replace hgS:=hE1.get hgS;replace hP:=hE1.get hP;generalize h.nx=b1 at *;refine zy ?_
 by_cases c1:x.pack=s.pack
 ·by_cases c2:x.venue=s.venue
  ·by_cases c3:inSp ⟨s.minute,E⟩ x.window
   ·refine ZAJ hmix xPC1 xPC5 (some 31) [([32],(some 33)),([],none)] (by kernel_rfl) (by kernel_rfl) ?_
    refine z_f ?_;refine z_l ?_;refine z_l ?_;refine z_q ?_;refine z_f ?_;refine z_f ?_;refine z_l ?_;refine ZAE rfl rfl rfl rfl rfl (fun _=>A_tt c1 (ZAs rfl rfl)) ?_;refine z_m ?_;refine g_f ?_;refine g_l ?_;refine g_l ?_;refine g_q ?_;refine g_f ?_;refine g_f ?_;refine g_l ?_
    first|refine ZAb rfl rfl rfl rfl ?_|refine ZAE rfl rfl rfl rfl rfl (fun _=>A_tt c2 (ZAs rfl rfl)) ?_
    refine z_p ?_;refine z_m ?_;refine g_l ?_;refine g_q ?_;refine g_f ?_;refine g_f ?_;refine g_l ?_;refine g_l ?_;refine g_q ?_;refine g_f ?_;refine g_l ?_;refine g_b ?_;refine g_f ?_;refine g_r ?_;refine ZAH xPC5 (by kernel_rfl) rfl (ZAA rfl) rfl nb rfl (ZAy rfl rfl rfl rfl rfl Bod.h (ZNL c3 (ZBz (s:=⟨s.minute,E⟩) (a:=x.window))) (fun h2 hE2=>?_));refine z_p ?_;refine ZAH xPC4 (by kernel_rfl) rfl (ZAA rfl) rfl nb rfl (ZBW rfl rfl (ZAS rfl) ?_);refine ZAP (ZAA rfl) nb' ?_;refine zy ?_;exact ZAB (ZAC rfl ⟨by rw[show kOk s ⟨s.minute,E⟩ x=true from decide_eq_true ⟨c1,c2,c3⟩];rfl,hE1.trans hE2⟩)
   ·refine ZAJ hmix xPC1 xPC5 (some 31) [([32],(some 33)),([],none)] (by kernel_rfl) (by kernel_rfl) ?_
    refine z_f ?_;refine z_l ?_;refine z_l ?_;refine z_q ?_;refine z_f ?_;refine z_f ?_;refine z_l ?_;refine ZAE rfl rfl rfl rfl rfl (fun _=>A_tt c1 (ZAs rfl rfl)) ?_;refine z_m ?_;refine g_f ?_;refine g_l ?_;refine g_l ?_;refine g_q ?_;refine g_f ?_;refine g_f ?_;refine g_l ?_
    first|refine ZAb rfl rfl rfl rfl ?_|refine ZAE rfl rfl rfl rfl rfl (fun _=>A_tt c2 (ZAs rfl rfl)) ?_
    refine z_p ?_;refine z_m ?_;refine g_l ?_;refine g_q ?_;refine g_f ?_;refine g_f ?_;refine g_l ?_;refine g_l ?_;refine g_q ?_;refine g_f ?_;refine g_l ?_;refine g_b ?_;refine g_f ?_;refine g_r ?_;refine ZAH xPC5 (by kernel_rfl) rfl (ZAA rfl) rfl nb rfl (ZAy rfl rfl rfl rfl rfl Bod.h (ZNg c3 (ZBz (s:=⟨s.minute,E⟩) (a:=x.window))) (fun h2 hE2=>?_));refine z_p ?_;refine ZAH xPC4 (by kernel_rfl) rfl (ZAA rfl) rfl nb rfl (ZBW rfl rfl (ZAS rfl) ?_);refine ZAP (ZAA rfl) nb' ?_;refine zy ?_;exact ZAB (ZAC rfl ⟨by rw[show kOk s ⟨s.minute,E⟩ x=false from decide_eq_false (fun e=>c3 e.2.2)];rfl,hE1.trans hE2⟩)
  ·refine ZAJ hmix xPC1 xPC5 (some 31) [([32],(some 33)),([],none)] (by kernel_rfl) (by kernel_rfl) ?_
   refine z_f ?_;refine z_l ?_;refine z_l ?_;refine z_q ?_;refine z_f ?_;refine z_f ?_;refine z_l ?_;refine ZAE rfl rfl rfl rfl rfl (fun _=>A_tt c1 (ZAs rfl rfl)) ?_;refine z_m ?_;refine g_f ?_;refine g_l ?_;refine g_l ?_;refine g_q ?_;refine g_f ?_;refine g_f ?_;refine g_l ?_
   first|refine ZAb rfl rfl rfl rfl ?_|refine ZAE rfl rfl rfl rfl rfl (fun _=>A_ff c2 (ZAs rfl rfl)) ?_
   refine z_p ?_;refine z_m ?_;refine g_l ?_;refine g_q ?_;refine g_f ?_;refine g_f ?_;refine g_l ?_;refine g_l ?_;refine g_q ?_;refine g_f ?_;refine g_l ?_;refine g_b ?_;refine g_f ?_;refine g_r ?_;refine ZAH xPC5 (by kernel_rfl) rfl (ZAA rfl) rfl nb rfl (ZBf rfl ?_);refine z_p ?_;refine ZAH xPC4 (by kernel_rfl) rfl (ZAA rfl) rfl nb rfl (ZBW rfl rfl (ZAS rfl) ?_);refine ZAP (ZAA rfl) nb' ?_;refine zy ?_;exact ZAB (ZAC rfl ⟨by rw[show kOk s ⟨s.minute,E⟩ x=false from decide_eq_false (fun e=>c2 e.2.1)];rfl,hE1⟩)
 ·refine ZAJ hmix xPC1 xPC5 (some 31) [([32],(some 33)),([],none)] (by kernel_rfl) (by kernel_rfl) ?_
  refine z_f ?_;refine z_l ?_;refine z_l ?_;refine z_q ?_;refine z_f ?_;refine z_f ?_;refine z_l ?_;refine ZAE rfl rfl rfl rfl rfl (fun _=>A_ff c1 (ZAs rfl rfl)) ?_;refine z_m ?_;refine g_f ?_;refine g_l ?_;refine g_l ?_;refine g_q ?_;refine g_f ?_;refine g_f ?_;refine g_l ?_;refine z_o ?_;refine z_p ?_;refine z_m ?_;refine g_l ?_;refine g_q ?_;refine g_f ?_;refine g_f ?_;refine g_l ?_;refine g_l ?_;refine g_q ?_;refine g_f ?_;refine g_l ?_;refine g_b ?_;refine g_f ?_;refine g_r ?_;refine ZAH xPC5 (by kernel_rfl) rfl (ZAA rfl) rfl nb rfl (ZBf rfl ?_);refine z_p ?_;refine ZAH xPC4 (by kernel_rfl) rfl (ZAA rfl) rfl nb rfl (ZBW rfl rfl (ZAS rfl) ?_)
  refine ZAP (ZAA rfl) nb' ?_;refine zy ?_;exact ZAB (ZAC rfl ⟨by rw[show kOk s ⟨s.minute,E⟩ x=false from decide_eq_false (fun e=>c1 e.1)];rfl,hE1⟩)
def maxL:List Int->Int
 | []=>0
 | x::l=>l.foldl max x
theorem ZKc {l:List Int}(h:l≠[])(y:Int):maxL (l++[y])=max (maxL l) y:=by
 cases l with
 | nil=>exact absurd rfl h
 | cons x l=>simp[maxL,List.foldl_append]
theorem ZSi {l:List Int}(h:l≠[])(c:Int):(c<maxL l) ↔ (l.any fun n=>decide (c<n))=true:=by
 refine ZU0 (p:=fun l=>l≠[]->((c<maxL l) ↔ (l.any fun n=>decide (c<n))=true)) (fun h=>absurd rfl h) (fun l x ih _=>?_) l h
 by_cases e:l=[]
 ·subst e;simp[maxL]
 ·rw[ZKc e,List.any_append,Bool.or_eq_true,<-ih e]
  simp only[List.any_cons,List.any_nil,Bool.or_false,decide_eq_true_eq];omega
theorem ZPt {a:Option Addr}{cap:Nat}{l:List Int}{h:Heap}(hI:ZC9 h a l)(h0:l≠[])(hL:Len l):Sv Tryz.prog 215 [.slice a l.length cap] h (RetP fun v h'=>v=i64 (maxL l)/\h'=h):=by
 have hp:0<l.length:=List.length_pos_iff.2 h0;obtain⟨b,o,oa,rfl,hc⟩:=hI 0 hp;refine ZAF Tryz.func215 rfl (by rw[Tryz.ntmps215];rfl) ?_;show Wc Tryz.prog ⟨215,25,none⟩ _ _ _ _ _;refine zy ?_;refine zD (A_ff (by omega) (ZAf rfl rfl)) ?_;refine zD (ZAL (k:=0) Und.h Tsz.h rfl rfl rfl hp) ?_;refine ZAO (fun (k:Nat) m ds h'=>ds=[]/\h=h'/\1<=k/\k<=l.length/\AllK m [(0,.slice (some ⟨b,o,oa⟩) l.length cap),(3,i64 (maxL (l.take k))),(4,i64 k)]) (fun k=>l.length-k) 1 ?_ ?_
 ·refine⟨rfl,rfl,Nat.le_refl _,hp,rfl,?_,rfl,trivial⟩
  cases l with
  | nil=>exact absurd rfl h0
  | cons x l=>rfl
 rintro k m ds h' ⟨rfl,rfl,hk1,hk,hall⟩;refine Wc.le ?_ (Le.kn hall);refine zy ?_;refine zC (ZAf rfl rfl) (fun h4=>?_) (fun h4=>?_)
 ·have hk':k<l.length:=by simpa using h4
  obtain⟨b',o',oa',e',hc'⟩:=hI k hk';cases e';have hm:maxL (l.take (k+1))=max (maxL (l.take k)) l[k]:=by
   rw[List.take_add_one,List.getElem?_eq_getElem hk'];exact ZKc (fun e=>by have:=congrArg List.length e;rw[List.length_take,List.length_nil] at this;omega) _
  refine zy ?_;refine zD (A_ix Und.h Tsz.h rfl rfl) ?_;refine zD (ZV6 rfl rfl) ?_;refine⟨k+1,(by show l.length-(k+1)<l.length-k;omega),rfl,rfl,by omega,hk',rfl,?_,rfl,trivial⟩;rw[hm];rfl
 have hk2:k=l.length:=by omega
 subst hk2;rw[List.take_length];refine zy ?_;exact ZAB (ZAC rfl ⟨rfl,rfl⟩)
set_option maxHeartbeats 2000000 in
theorem ZUO {bS bH:Nat}{t:ScT}{s:ScS}{h:Heap}(hS:ZCt h bS bH t s)(hH:ZDp h bH t)(hO:ScOk t)(hs0:ZAY t s=0):Sv Tryz.prog 143 [.pointer (some ⟨bS,0,none⟩)] h (RetP fun v h'=>v=i64 (if s.print<0 then 0 else ZFF t s)/\Ext h h'):=by
 obtain⟨row,ag,cg,aw,cw,ht,hgH,hGr,-⟩:=hH;obtain⟨al,cl,at',ct,a1,c1',a2,c2',a3,c3',a4,c4',a5,c5',a6,c6',rfl,m1,m2,m3,m4,m5,m6,m7,m8⟩:=ht;replace hgH:h.get bH=some (.cells [i64 t.first,.slice al t.lands.length cl,.slice at' t.travel.length ct,.slice a1 t.venues.length c1',.slice a2 t.rights.length c2',.slice a3 t.prints.length c3',.slice a4 t.packs.length c4',.slice a5 t.keys.length c5',.slice a6 t.loans.length c6',.slice ag (ZBq t).1.length cg,.slice aw (ZBq t).2.length cw] 227 false):=hgH;have hgS:=hS.row;have q1:=hO.prints1;have q2:(ZBq t).1.length<=t.loans.length:=by rw[<-ZNu];exact (ZMR hO (Nat.le_refl _)).2.1
 have q3:=hO.loans1;obtain⟨⟨v1,v2⟩,hpp,-,⟨sp1,sp2⟩,-⟩:=ZCT hs0;refine ZA5 fun hw=>?_;refine ZAF Tryz.func143 rfl (by rw[Tryz.ntmps143];rfl) ?_;show Wc Tryz.prog ⟨143,81,none⟩ _ _ _ _ _;refine zy ?_;refine ZAg rfl rfl rfl fun h1 hE1 hW1 hg1 hn1=>?_;have k1:=hE1.get hgS;have kH1:=hE1.get hgH;have hS1:=hS.ext hE1;refine zy ?_
 by_cases c0:s.print<0
 ·refine zD (A_tt c0 (ZAf rfl rfl)) ?_
  exact ZAB (ZAC rfl ⟨by rw[if_pos c0];rfl,hE1⟩)
 rw[if_neg c0];refine zD (A_ff c0 (ZAf rfl rfl)) ?_;have hprint:0<=s.print/\s.print<t.prints.length/\s.pack = -1:=by omega
 obtain⟨bp,op,oap,rfl,ap,cp,hrp,hI⟩:=ZT7 (ZAM.ext (R:=ScPR) (fun x y=>ScPR.ext x y) m5 hE1) (s:=s) hprint.1 hprint.2.1;obtain⟨⟨l1,l2⟩,l3,-,-⟩:=ZJ5 (ZUH hO hs0 hprint.2.2);have hfilm:ZFF t s=if (ZBq t).1.any (lOk s (ZDH t s))=false then 212 else if (ZA1 t s).proj=0\/¬inSp ⟨s.speed,s.speed⟩ (ZA1 t s).speeds\/¬inSp ⟨s.speed,s.speed⟩ (prAt t s).speeds then 215 else if (ZA1 t s).spool<maxL (prAt t s).reels then 216 else 0:=by
  unfold ZFF inSp;rw[ZR8];simp only[ZSi (show (prAt t s).reels≠[] from fun e=>by rw[e] at l1;simp at l1) (ZA1 t s).spool]
 rw[hfilm];have hRl:(prAt t s).reels≠[]:=fun e=>by rw[e] at l1;simp at l1
 have hp1:∀{h':Heap},Ext h1 h'->∀row x,x∈(ZBq t).1->ScLR h' row x->Sv Tryz.prog 213 ([]++([.agg ⟨row⟩]++[.pointer (some ⟨h.nx,0,none⟩)])) h' (RetP fun v h''=>v=.bool (lOk s (ZDH t s) x)/\Ext h' h''):=fun hE row x _ hx=>ZTE (hS1.ext hE) (hE.get hg1) hx;generalize ZDH t s=D at *;generalize endS t s=E at *;generalize ZBi t s=W at *;generalize ZEu t s=V at *;generalize hVe:ZA1 t s=Ve at *;generalize hPr:prAt t s=Pr at *;have hEa:=Ext.add hW1 (.cells [str [],str [],str [],.slice none 0 0,i64 0,i64 0,i64 0] 102 false);have hEb:=hEa.trans (Ext.add (hW1.add _) (.cells [str [],i64 0,i64 0,i64 0,i64 0,i64 0,i64 0,i64 0,.bool false] 232 false))
 have ga:((h1.add (.cells [str [],str [],str [],.slice none 0 0,i64 0,i64 0,i64 0] 102 false)).add (.cells [str [],i64 0,i64 0,i64 0,i64 0,i64 0,i64 0,i64 0,.bool false] 232 false)).get h1.nx=some (.cells [str [],str [],str [],.slice none 0 0,i64 0,i64 0,i64 0] 102 false):=(Ext.add (hW1.add _) _).get Heap.get_add_same;have gb:((h1.add (.cells [str [],str [],str [],.slice none 0 0,i64 0,i64 0,i64 0] 102 false)).add (.cells [str [],i64 0,i64 0,i64 0,i64 0,i64 0,i64 0,i64 0,.bool false] 232 false)).get (h1.nx+1)=some (.cells [str [],i64 0,i64 0,i64 0,i64 0,i64 0,i64 0,i64 0,.bool false] 232 false):=Heap.get_add_same
 refine ZAJ hmix [0,1,3,7,15,31,63,127,255,0,512,1536,3584,7680,16383,32767,0,65536,196608,458752,0,0,3211263,8388607] [0,1,2,3,4,5,6,7,8,9,10,11,12,13,14,15,16,17,18,19,20,21] (some 22) [([],(some 23)),([],none)] (by kernel_rfl) (by kernel_rfl) ?_;refine z_l ?_;refine z_q ?_;refine z_f ?_;refine z_l ?_;refine z_q ?_;refine z_f ?_;refine z_f ?_;refine z_f ?_;refine z_l ?_;refine z_l ?_;refine z_q ?_;refine z_f ?_;refine z_f ?_;refine z_l ?_;refine ZAE rfl rfl rfl rfl rfl (fun _=>ZAL (k:=s.print.toNat) Und.h Tsz.h rfl rfl (by omega) (by omega)) ?_;refine z_r ?_;refine z_l ?_;refine z_q ?_;refine z_f ?_;refine z_r ?_
 refine ZCX (nk:=.ptr) rfl rfl rfl rfl rfl (fun _ _ _=>ZHK Zr.h) ?_;refine ZCX (nk:=.ptr) rfl rfl rfl rfl rfl (fun _ _ _=>ZHK Zr.h) ?_;refine ZAH (h1:=(Heap.add (Heap.add h1 _) _)) [0,1,2,3,4,5,6,7,8,9,10,11,12,13,14,15,20,21] (by kernel_rfl) rfl (ZAA rfl) rfl rfl rfl (ZA6 (ZAz rfl rfl Tsz.h rfl rfl ga rfl rfl rfl (fun h5 hU5 hW5=>?_)));have hE5:=hU5.ext hEb hW1 (Nat.le_refl _);have gb5:=hU5.get (show h1.nx+1≠h1.nx by omega) gb;have k5:=hE5.get k1;have kg5:=hE5.get hg1;refine ZAH (h1:=h5) xPC8 (by kernel_rfl) rfl (by refine t_r 19 ?_;refine t_f 18 ?_;refine t_q 17 ?_;refine t_l 16 ?_;exact ZAA rfl) rfl rfl rfl (ZA6 (ZAz rfl rfl Tsz.h rfl rfl gb5 rfl rfl rfl (fun h6 hU6 hW6=>?_)))
 have hE6:=hU6.ext hE5 hW1 (Nat.le_succ _);refine ZAP (h1:=h6) (ZAA rfl) rfl ?_;have gP:=hU6.get (show h1.nx≠h1.nx+1 by omega) hU5.at';have gV:=hU6.at';have k6:=hE6.get k1;have kg6:=hE6.get hg1;have kH6:=hE6.get kH1;clear k5 kg5 gb5 ga gb hEb hEa hU5 hU6 hE5 hW5;generalize h1.nx+1=bV at *;generalize h1.nx=bP at *;refine zy ?_;refine ZAJ hmix [0,1,3,7,15,0,32,96,224,480,1023,0,4095] ZVU (some 12) [([],none)] (by kernel_rfl) (by kernel_rfl) ?_;refine z_l ?_;refine z_q ?_;refine z_f ?_;refine z_f ?_;refine z_l ?_;refine z_l ?_;refine z_q ?_;refine z_f ?_;refine z_f ?_;refine z_l ?_;refine z_b ?_;refine ZCX (nk:=.ptr) rfl rfl rfl rfl rfl (fun _ _ _=>ZHK Zr.h) ?_
 refine ZAH (h1:=(Heap.add h6 _)) ZVU (by kernel_rfl) rfl (ZAA rfl) rfl rfl rfl (ZA6 (ZAz rfl rfl Tsz.h rfl rfl Heap.get_add_same rfl rfl rfl (fun h7 hU7 hW7=>?_)));have hE67:=hU7.ext (Ext.add hW6 _) hW6 (Nat.le_refl _);refine ZAP (h1:=h7) (ZAA rfl) rfl ?_;have gQ:=hU7.at';replace gP:=hE67.get gP;replace gV:=hE67.get gV;have k7:=hE67.get k6;have kg7:=hE67.get kg6;have kH7:=hE67.get kH6;have hE7:=hE6.trans hE67;clear k6 kg6 kH6 hU7 hE67 hE6;generalize h6.nx=bQ at *;refine zy ?_;refine ZAh rfl rfl rfl rfl rfl Bod.h rfl rfl (ZG4 (first:=[]) (ZAM.ext (R:=ScLR) (fun x _=>x) hGr (hE1.trans hE7)) Bod.h (fun h' hE'=>hp1 (hE7.trans hE')) (by omega)) (fun c1 h8 hE8=>?_) (fun c1 h8 hE8=>?_)
 rotate_left
 ·refine zy ?_
  exact ZAB (ZAC rfl ⟨by rw[if_pos c1];rfl,hE1.trans (hE7.trans hE8)⟩)
 rw[if_neg (by rw[c1];simp)];replace gP:=hE8.get gP;replace gV:=hE8.get gV;replace gQ:=hE8.get gQ;replace hE8:=hE7.trans hE8;clear k7 kg7 kH7 hE7;refine zy ?_;refine zC (ZAs rfl rfl) (fun c2=>?_) (fun c2=>?_)
 ·refine zy ?_
  exact ZAB (ZAC rfl ⟨by rw[if_pos (.inl c2)];rfl,hE1.trans hE8⟩)
 refine zy ?_;refine ZAh rfl rfl rfl rfl rfl Bod.h rfl rfl (ZBz (s:=⟨s.speed,s.speed⟩) (a:=Ve.speeds)) (fun c3 h9 hE9=>?_) (fun c3 h9 hE9=>?_);rotate_left
 ·refine zy ?_
  exact ZAB (ZAC rfl ⟨by rw[if_pos (.inr (.inl (of_decide_eq_false c3)))];rfl,hE1.trans (hE8.trans hE9)⟩)
 replace gP:=hE9.get gP;replace gV:=hE9.get gV;replace gQ:=hE9.get gQ;replace hE9:=hE8.trans hE9;refine zy ?_;refine ZAh rfl rfl rfl rfl rfl Bod.h rfl rfl (ZBz (s:=⟨s.speed,s.speed⟩) (a:=Pr.speeds)) (fun c4 h10 hE10=>?_) (fun c4 h10 hE10=>?_);rotate_left
 ·refine zy ?_
  exact ZAB (ZAC rfl ⟨by rw[if_pos (.inr (.inr (of_decide_eq_false c4)))];rfl,hE1.trans (hE9.trans hE10)⟩)
 replace gP:=hE10.get gP;replace gV:=hE10.get gV;replace hE10:=hE9.trans hE10;rw[if_neg (fun x=>x.elim c2 fun x=>x.elim (fun y=>y (of_decide_eq_true c3)) (fun y=>y (of_decide_eq_true c4)))];have hI10:=hI.ext hE10;refine zy ?_
 by_cases c5:Ve.spool<maxL Pr.reels
 ·rw[if_pos c5]
  refine ZAJ hmix ZVb [0,1,3,4] (some 2) [([5],(some 6)),([],none)] (by kernel_rfl) (by kernel_rfl) ?_;refine z_f ?_;refine z_l ?_;refine z_f ?_;refine z_l ?_;refine ZAH [0,1] (by kernel_rfl) rfl (ZAA rfl) rfl nb rfl (ZAT rfl rfl rfl rfl rfl Bod.h (ZPt hI10 hRl (by omega)) ?_);refine ZAE rfl rfl rfl rfl rfl (fun _=>A_tt c5 (ZCl rfl rfl)) ?_;refine ZAH [0,1,2,3,4,5] (by kernel_rfl) rfl (by refine t_l 4 ?_;refine t_f 3 ?_;exact ZAA rfl) rfl nb rfl (ZBW rfl rfl (ZAS rfl) ?_);refine ZAP (ZAA rfl) nb' ?_;refine zy ?_;exact ZAB (ZAC rfl ⟨rfl,hE1.trans hE10⟩)
 ·rw[if_neg c5]
  refine ZAJ hmix ZVb [0,1,3,4] (some 2) [([5],(some 6)),([],none)] (by kernel_rfl) (by kernel_rfl) ?_;refine z_f ?_;refine z_l ?_;refine z_f ?_;refine z_l ?_;refine ZAH [0,1] (by kernel_rfl) rfl (ZAA rfl) rfl nb rfl (ZAT rfl rfl rfl rfl rfl Bod.h (ZPt hI10 hRl (by omega)) ?_);refine ZAE rfl rfl rfl rfl rfl (fun _=>A_ff c5 (ZCl rfl rfl)) ?_;refine ZAH [0,1,2,3,4,5] (by kernel_rfl) rfl (by refine t_l 4 ?_;refine t_f 3 ?_;exact ZAA rfl) rfl nb rfl (ZBW rfl rfl (ZAS rfl) ?_);refine ZAP (ZAA rfl) nb' ?_;refine zy ?_;exact ZAB (ZAC rfl ⟨rfl,hE1.trans hE10⟩)
set_option maxHeartbeats 2000000 in
theorem ZOQ {bS bH:Nat}{t:ScT}{s:ScS}{h:Heap}(hS:ZCt h bS bH t s)(hH:ZDp h bH t)(hO:ScOk t)(hs0:ZAY t s=0):Sv Tryz.prog 144 [.pointer (some ⟨bS,0,none⟩)] h (RetP fun v h'=>v=i64 (if s.pack<0 then 0 else ZGP t s)/\Ext h h'):=by
 obtain⟨row,ag,cg,aw,cw,ht,hgH,hGr,-⟩:=hH;obtain⟨al,cl,at',ct,a1,c1',a2,c2',a3,c3',a4,c4',a5,c5',a6,c6',rfl,m1,m2,m3,m4,m5,m6,m7,m8⟩:=ht;replace hgH:h.get bH=some (.cells [i64 t.first,.slice al t.lands.length cl,.slice at' t.travel.length ct,.slice a1 t.venues.length c1',.slice a2 t.rights.length c2',.slice a3 t.prints.length c3',.slice a4 t.packs.length c4',.slice a5 t.keys.length c5',.slice a6 t.loans.length c6',.slice ag (ZBq t).1.length cg,.slice aw (ZBq t).2.length cw] 227 false):=hgH;have hgS:=hS.row;have q1:=hO.packs1;have q3:=hO.keys1;obtain⟨⟨v1,v2⟩,hpp,-,⟨sp1,sp2⟩,-⟩:=ZCT hs0;refine ZA5 fun hw=>?_
 refine ZAF Tryz.func144 rfl (by rw[Tryz.ntmps144];rfl) ?_;show Wc Tryz.prog ⟨144,55,none⟩ _ _ _ _ _;refine zy ?_;refine ZAg rfl rfl rfl fun h1 hE1 hW1 hg1 hn1=>?_;have k1:=hE1.get hgS;have kH1:=hE1.get hgH;have hS1:=hS.ext hE1;refine zy ?_
 by_cases c0:s.pack<0
 ·refine zD (A_tt c0 (ZAf rfl rfl)) ?_
  exact ZAB (ZAC rfl ⟨by rw[if_pos c0];rfl,hE1⟩)
 rw[if_neg c0];refine zE (A_ff c0 (ZAf rfl rfl)) ?_;have hpack:0<=s.pack/\s.pack<t.packs.length:=by omega
 have hp1:∀{h':Heap},Ext h1 h'->∀row x,x∈t.keys->ScKR h' row x->Sv Tryz.prog 216 ([]++([.agg ⟨row⟩]++[.pointer (some ⟨h.nx,0,none⟩)])) h' (RetP fun v h''=>v=.bool (kOk s ⟨s.minute,endS t s⟩ x)/\Ext h' h''):=fun hE row x _ hx=>ZMx (hS1.ext hE) (hE.get hg1) hx;unfold ZGP;rw[ZUN];generalize endS t s=E at *;generalize ZDH t s=D at *;generalize ZBi t s=W at *;generalize ZEu t s=V at *;generalize hVe:ZA1 t s=Ve at *;generalize h.nx=b1 at *;refine zy ?_
 cases hd:Ve.digital with
 | false =>
  rw[hd] at k1;refine zy ?_;exact ZAB (ZAC rfl ⟨by rw[if_pos rfl];rfl,hE1⟩)
 | true =>
  rw[hd] at k1;rw[if_neg (by decide)];refine zy ?_;refine ZAh rfl rfl rfl rfl rfl Bod.h rfl rfl (ZG6 (first:=[]) (ZAM.ext (R:=ScKR) (fun x _=>x) m7 hE1) Bod.h (fun h' hE'=>hp1 hE') (by omega)) (fun c1 h8 hE8=>?_) (fun c1 h8 hE8=>?_);rotate_left
  ·refine zy ?_
   exact ZAB (ZAC rfl ⟨by rw[if_pos c1];rfl,hE1.trans hE8⟩)
  rw[if_neg (by rw[c1];simp)];have k8:=hE8.get k1;have kH8:=hE8.get kH1;have kg8:=hE8.get hg1;obtain⟨bp,op,oap,rfl,hrp⟩:=ZTu (ZAM.ext (R:=ZDC) (fun x _=>x) m6 (hE1.trans hE8)) (s:=s) hpack.1 hpack.2;have hcs:ZAZ h8 bp (op+s.pack.toNat*5+4)=some (i64 (pkAt t s).speed):=ZAQ hrp rfl;generalize pkAt t s=Pk at *;refine zy ?_
  by_cases c2:s.speed=Pk.speed
  ·rw[if_neg (fun e=>e c2)]
   refine ZAJ hmix ZVQ xPC8 (some 23) [([],none)] (by kernel_rfl) (by kernel_rfl) ?_;refine z_l ?_;refine z_q ?_;refine z_f ?_;refine z_f ?_;refine z_l ?_;refine z_l ?_;refine z_q ?_;refine z_f ?_;refine z_l ?_;refine z_q ?_;refine z_f ?_;refine z_f ?_;refine z_f ?_;refine z_l ?_;refine z_l ?_;refine z_q ?_;refine z_f ?_;refine z_f ?_;refine z_l ?_;refine ZAE rfl rfl rfl rfl rfl (fun _=>ZAL (k:=s.pack.toNat) Und.h Tsz.h rfl rfl (by omega) (by omega)) ?_;refine z_f ?_;refine z_l ?_;refine ZAE rfl rfl rfl rfl rfl (fun _=>A_ff (fun e=>e c2) (ZAo rfl rfl)) ?_;refine ZAH xPC8 (by kernel_rfl) rfl (ZAA rfl) rfl nb rfl (ZBW rfl rfl (ZAS rfl) ?_)
   refine ZAP (ZAA rfl) nb' ?_;refine zy ?_;exact ZAB (ZAC rfl ⟨rfl,hE1.trans hE8⟩)
  ·rw[if_pos c2]
   refine ZAJ hmix ZVQ xPC8 (some 23) [([],none)] (by kernel_rfl) (by kernel_rfl) ?_;refine z_l ?_;refine z_q ?_;refine z_f ?_;refine z_f ?_;refine z_l ?_;refine z_l ?_;refine z_q ?_;refine z_f ?_;refine z_l ?_;refine z_q ?_;refine z_f ?_;refine z_f ?_;refine z_f ?_;refine z_l ?_;refine z_l ?_;refine z_q ?_;refine z_f ?_;refine z_f ?_;refine z_l ?_;refine ZAE rfl rfl rfl rfl rfl (fun _=>ZAL (k:=s.pack.toNat) Und.h Tsz.h rfl rfl (by omega) (by omega)) ?_;refine z_f ?_;refine z_l ?_;refine ZAE rfl rfl rfl rfl rfl (fun _=>A_tt c2 (ZAo rfl rfl)) ?_;refine ZAH xPC8 (by kernel_rfl) rfl (ZAA rfl) rfl nb rfl (ZBW rfl rfl (ZAS rfl) ?_)
   refine ZAP (ZAA rfl) nb' ?_;refine zy ?_;exact ZAB (ZAC rfl ⟨rfl,hE1.trans hE8⟩)
set_option maxHeartbeats 2000000 in
theorem ZVL {bS bH:Nat}{t:ScT}{s:ScS}{h:Heap}(hS:ZCt h bS bH t s)(hH:ZDp h bH t)(hO:ScOk t)(hs0:ZAY t s=0):Sv Tryz.prog 92 [.pointer (some ⟨bS,0,none⟩)] h (RetP fun v h'=>v=i64 (whyS t s)/\Ext h h'):=by
 obtain⟨-,hpp,-⟩:=ZCT hs0;have hWh:whyS t s=if ZB8 t s=false then 211 else if (if s.print<0 then 0 else ZFF t s)≠0 then (if s.print<0 then 0 else ZFF t s) else (if s.pack<0 then 0 else ZGP t s):=by
  unfold whyS
  split
  ·rfl
  ·rcases hpp with ⟨p1,_,p2⟩|⟨p1,_,p2⟩
   ·rw[if_pos p1,if_neg (show ¬s.print<0 by omega),if_pos (show s.pack<0 by omega)]
    split
    ·rfl
    ·rename_i e;exact Classical.not_not.1 e
   ·rw[if_neg (show ¬0<=s.print by omega),if_pos (show s.print<0 by omega),if_neg (show ¬(0:Int)≠0 by simp),if_neg (show ¬s.pack<0 by omega)]
 have r1:=fun {h':Heap} (hE:Ext h h')=>ZTJ (hS.ext hE) (hH.ext hE) hO;have r2:=fun {h':Heap} (hE:Ext h h')=>ZUO (hS.ext hE) (hH.ext hE) hO hs0;have r3:=fun {h':Heap} (hE:Ext h h')=>ZOQ (hS.ext hE) (hH.ext hE) hO hs0;rw[hWh];generalize (if s.print<0 then 0 else ZFF t s)=e2 at *;generalize (if s.pack<0 then 0 else ZGP t s)=e3 at *;clear hS hH hWh hpp;refine ZA5 fun hw=>?_;refine ZAF Tryz.func92 rfl (by rw[Tryz.ntmps92];rfl) ?_;show Wc Tryz.prog ⟨92,24,none⟩ _ _ _ _ _;refine zy ?_;refine ZCA rfl rfl Und.h Tsz.h Zr.h rfl rfl rfl rfl rfl fun h2 hE2 hW2 hg2 hn2=>?_;generalize h.nx=bF at *;refine zy ?_
 refine ZAO (fun (k:Nat) m ds h'=>ds=[]/\Ext h2 h'/\k<=3/\(0<k->ZB8 t s=true)/\(1<k->e2=0)/\(2<k->e3=0) ∧
   AllK m [(12,.slice (some ⟨bF,0,none⟩) 3 3),(13,i64 ((3:Nat):Int)),(14,i64 k)]) (fun k=>3-k) 0 ?_ ?_
 ·exact⟨rfl,Ext.refl _,by decide,(fun h=>absurd h (by decide)),(fun h=>absurd h (by decide)),(fun h=>absurd h (by decide)),rfl,rfl,rfl,trivial⟩
 rintro k m ds h3 ⟨rfl,hE3,hk,z1,z2,z3,hall⟩;have hg3:=hE3.get hg2;refine Wc.le ?_ (Le.kn hall);refine zy ?_;refine zC (ZAf rfl rfl) (fun h4=>?_) (fun h4=>?_);rotate_left
 ·have hk3:k=3:=by omega
  subst hk3;refine zy ?_;exact ZAB (ZAC rfl ⟨by rw[z1 (by decide),z2 (by decide),z3 (by decide)];rfl,hE2.trans hE3⟩)
 have hk3:k=0\/k=1\/k=2:=by omega
 rcases hk3 with rfl|rfl|rfl
 ·refine zy ?_
  refine zD (ZAL (k:=0) Und.h Tsz.h rfl rfl rfl (by decide)) ?_;refine zW (r1 (hE2.trans hE3)) fun h5 hE5=>?_;refine zy ?_;refine zC (ZAo rfl rfl) (fun h6=>?_) (fun h6=>?_)
  ·refine zy ?_
   have hr:ZB8 t s=false:=by
    cases hq:ZB8 t s
    ·rfl
    ·rw[hq] at h6;exact absurd rfl h6
   exact ZAB (ZAC rfl ⟨by rw[hr];rfl,hE2.trans (hE3.trans hE5)⟩)
  have hr:ZB8 t s=true:=by
   cases hq:ZB8 t s
   ·rw[hq] at h6;exact absurd (by decide) h6
   ·rfl
  refine zy ?_;exact⟨1,by decide,rfl,hE3.trans hE5,by decide,(fun _=>hr),(fun h=>absurd h (by decide)),(fun h=>absurd h (by decide)),rfl,rfl,rfl,trivial⟩
 ·refine zy ?_
  refine zD (ZAL (k:=1) Und.h Tsz.h rfl rfl rfl (by decide)) ?_;refine zW (r2 (hE2.trans hE3)) fun h5 hE5=>?_;refine zy ?_;refine zC (ZAo rfl rfl) (fun h6=>?_) (fun h6=>?_)
  ·refine zy ?_
   exact ZAB (ZAC rfl ⟨by rw[z1 (by decide),if_neg (by decide),if_pos h6];rfl,hE2.trans (hE3.trans hE5)⟩)
  replace h6:=Decidable.not_not.1 h6;refine zy ?_;exact⟨2,by decide,rfl,hE3.trans hE5,by decide,(fun _=>z1 (by decide)),(fun _=>h6),(fun h=>absurd h (by decide)),rfl,rfl,rfl,trivial⟩
 ·refine zy ?_
  refine zD (ZAL (k:=2) Und.h Tsz.h rfl rfl rfl (by decide)) ?_;refine zW (r3 (hE2.trans hE3)) fun h5 hE5=>?_;refine zy ?_;refine zC (ZAo rfl rfl) (fun h6=>?_) (fun h6=>?_)
  ·refine zy ?_
   exact ZAB (ZAC rfl ⟨by rw[z1 (by decide),if_neg (by decide),if_neg (fun e=>e (z2 (by decide)))];rfl,hE2.trans (hE3.trans hE5)⟩)
  replace h6:=Decidable.not_not.1 h6;refine zy ?_;exact⟨3,by decide,rfl,hE3.trans hE5,by decide,(fun _=>z1 (by decide)),(fun _=>z2 (by decide)),(fun _=>h6),rfl,rfl,rfl,trivial⟩
end Go.Dw
namespace Go.Dw
open Go Go.Dx Go.Proofs
set_option maxRecDepth 100000
set_option maxHeartbeats 8000000
def mayV (t:ScT)(s:ScS):Int×Int:=if ZEV t=0 then if ZAY t s=0 then (whyS t s,0) else (0,ZAY t s) else (0,ZEV t)
theorem ZJR {tc sr:List Value}{t:ScT}{s:ScS}{h:Heap}(ht:ZDk h tc t)(hT:t.Fit)(hs:s.Fit)(hr:ScSR h sr s):Sv Tryz.prog 52 [.agg ⟨tc⟩,.agg ⟨sr⟩] h (RetP fun v h'=>v=.tuple ⟨[i64 (mayV t s).1,i64 (mayV t s).2]⟩/\Ext h h'):=by
 have ht0:=ht;obtain⟨al,cl,at',ct,a1,c1,a2,c2,a3,c3,a4,c4,a5,c5,a6,c6,rfl,-⟩:=ht;obtain rfl:=hr;refine ZA5 fun hw=>?_;refine ZAF Tryz.func52 rfl (by rw[Tryz.ntmps52];rfl) ?_;show Wc Tryz.prog ⟨52,27,none⟩ _ _ _ _ _;refine zy ?_;refine ZAg rfl rfl rfl fun h1 hE1 hW1 hg1 hn1=>?_;refine ZAg rfl rfl rfl fun h2 hE2 hW2 hg2 hn2=>?_;replace hg1:=hE2.get hg1;have hE:=hE1.trans hE2;generalize h.nx=b1 at *;generalize h1.nx=b2 at *;clear hE1 hE2 hW1 hn1 hn2;refine zy ?_;refine zR (ZQS (ht0.ext hE) hT) ?_;rintro v h3 ⟨hE3,⟨he,rfl⟩|⟨he,bH,rfl,hH⟩⟩
 ·refine zy ?_
  refine zC (ZAo rfl rfl) (fun h4=>?_) (fun h4=>?_)
  ·refine zy ?_
   exact ZAB (ZAC rfl ⟨by unfold mayV;rw[if_neg he];rfl,hE.trans hE3⟩)
  ·exact absurd (Decidable.not_not.1 h4) he
 have hO:=ZSy he;replace hg2:=hE3.get hg2;refine zy ?_;refine zC (ZAo rfl rfl) (fun h4=>?_) (fun h4=>?_)
 ·exact absurd rfl h4
 refine zy ?_;refine zR (ZSP hH hO hs rfl) ?_;rintro v h5 ⟨hE5,⟨hs0,rfl⟩|⟨hs0,bS,rfl,hS,-⟩⟩
 ·refine zy ?_
  refine zC (ZAo rfl rfl) (fun h6=>?_) (fun h6=>?_)
  ·refine zy ?_
   exact ZAB (ZAC rfl ⟨by unfold mayV;rw[if_pos he,if_neg hs0];rfl,hE.trans (hE3.trans hE5)⟩)
  ·exact absurd (Decidable.not_not.1 h6) hs0
 refine zy ?_;refine zC (ZAo rfl rfl) (fun h6=>?_) (fun h6=>?_)
 ·exact absurd rfl h6
 refine zy ?_;refine zW (ZVL hS (hH.ext hE5) hO hs0) fun h7 hE7=>?_;refine zy ?_;exact ZAB (ZAC rfl ⟨by unfold mayV;rw[if_pos he,if_pos hs0];rfl,hE.trans (hE3.trans (hE5.trans hE7))⟩)
end Go.Dw
namespace Go.Dw
open Go Go.Dx Go.Proofs
set_option maxRecDepth 100000
section
variable {H:Type}{enc:TypeId×Value->H}{W:World}{cs:List Value}
theorem ZQ1 (h:Rd enc Tryz.prog W 98 cs):∃s:Sp,cs=[i64 s.lo,i64 s.hi]/\I64 s.lo/\I64 s.hi:=by
 have cS:Tryz.prog.cellsOf 98=2:=by kernel_rfl
 have c3:Tryz.prog.cellsOf 3=1:=by kernel_rfl
 obtain⟨h1,h2⟩:=ZBl Tryz.underlying98 h;rw[cS] at h1;obtain⟨x0,x1,rfl⟩:∃x0 x1,cs=[x0,x1]:=by
  match cs,h1 with
  | [x0,x1],_=>exact⟨x0,x1,rfl⟩
 have f0:Rd enc Tryz.prog W 3 (([x0,x1].drop 0).take (Tryz.prog.cellsOf 3)):=h2 0 _ rfl;have f1:Rd enc Tryz.prog W 3 (([x0,x1].drop 1).take (Tryz.prog.cellsOf 3)):=h2 1 _ rfl;rw[c3] at f0 f1;obtain⟨n0,e0,l0⟩:=ZBT Tryz.underlying3 f0;obtain⟨n1,e1,l1⟩:=ZBT Tryz.underlying3 f1;simp at e0 e1;subst e0;subst e1;exact⟨⟨n0,n1⟩,rfl,l0,l1⟩
theorem ZTW (h:Rd enc Tryz.prog W 38 cs):∃v a l cap,cs=[v]/\okv W.heap.size v=true/\nz v=.slice a l.length cap/\ZIr (ro W) a l/\Len l/\∀s∈l,Len s :=
 ZPO (encA:=str) (Fit:=fun s:List UInt8=>Len s) Tryz.underlying38 (by kernel_rfl) (fun row hr=>by
  obtain⟨n,h1,h2⟩:=ZBx Tryz.underlying9 hr;exact⟨n,_,h1,rfl,rfl,h2⟩) h
theorem ZSW (h:Rd enc Tryz.prog W 38 cs):∃v a l cap,cs=[v]/\okv W.heap.size v=true/\nz v=.slice a l.length cap/\ParL str (ro W) a l cap/\Len l/\∀s∈l,Len s:=by
 obtain⟨v,a,l,cap,h1,h2,h3,h4,h5,h6⟩:=ZTW h;obtain⟨v',a',len',cap',g1,g2,g3⟩:=ZPX Tryz.underlying38 h;have c9:Tryz.prog.cellsOf 9=1:=by kernel_rfl
 obtain⟨v2,a2,len2,cap2,k1,_,k3,_,k5⟩:=ZHG Tryz.underlying38 (by omega) h;rw[h1] at g1 k1;simp only[List.cons.injEq,and_true] at g1 k1;subst g1;subst k1;rw[h3] at g2 k3;simp only[Value.slice.injEq] at g2 k3;obtain⟨rfl,rfl,rfl⟩:=g2;obtain⟨rfl,rfl,rfl⟩:=k3;refine⟨v,a,l,cap,h1,h2,h3,⟨h4,g3,fun hn=>?_⟩,h5,h6⟩;obtain⟨b,o,ha,_⟩:=k5 0 (List.length_pos_iff.2 hn);exact⟨b,o,ha⟩
theorem ZUx (h:Rd enc Tryz.prog W 39 cs):∃l:List Int,cs.all (okv W.heap.size)=true/\ZCh (ro W) (cs.map nz) l/\(Len l/\∀n∈l,I64 n):=by
 obtain⟨v,a,l,cap,e,ok,hz,hI,hL,hF⟩:=ZRm Tryz.underlying39 Tryz.underlying3 (by kernel_rfl) h;subst e;exact⟨l,by simp[ok],⟨a,cap,by simp only[List.map_cons,List.map_nil,hz],hI⟩,hL,hF⟩
theorem ZSr (h:Rd enc Tryz.prog W 232 cs):∃v:ScV,cs.all (okv W.heap.size)=true/\ScVR (ro W) (cs.map nz) v/\v.Fit:=by
 have cS:Tryz.prog.cellsOf 232=9:=by kernel_rfl
 obtain⟨h1,h2⟩:=ZBl Tryz.underlying232 h;rw[cS] at h1;obtain⟨x0,x1,x2,x3,x4,x5,x6,x7,x8,rfl⟩:∃x0 x1 x2 x3 x4 x5 x6 x7 x8,cs=[x0,x1,x2,x3,x4,x5,x6,x7,x8]:=by
  match cs,h1 with
  | [x0,x1,x2,x3,x4,x5,x6,x7,x8],_=>exact⟨x0,x1,x2,x3,x4,x5,x6,x7,x8,rfl⟩
 have c0:Tryz.prog.cellsOf 9=1:=by kernel_rfl
 have f0:Rd enc Tryz.prog W 9 (([x0,x1,x2,x3,x4,x5,x6,x7,x8].drop 0).take (Tryz.prog.cellsOf 9)):=h2 0 _ rfl;rw[c0] at f0;obtain⟨n0,e0,l0⟩:=ZBx Tryz.underlying9 f0;have c1:Tryz.prog.cellsOf 3=1:=by kernel_rfl
 have f1:Rd enc Tryz.prog W 3 (([x0,x1,x2,x3,x4,x5,x6,x7,x8].drop 1).take (Tryz.prog.cellsOf 3)):=h2 1 _ rfl;rw[c1] at f1;obtain⟨n1,e1,l1⟩:=ZBT Tryz.underlying3 f1;have c2:Tryz.prog.cellsOf 3=1:=by kernel_rfl
 have f2:Rd enc Tryz.prog W 3 (([x0,x1,x2,x3,x4,x5,x6,x7,x8].drop 2).take (Tryz.prog.cellsOf 3)):=h2 2 _ rfl;rw[c2] at f2;obtain⟨n2,e2,l2⟩:=ZBT Tryz.underlying3 f2;have c3:Tryz.prog.cellsOf 98=2:=by kernel_rfl
 have f3:Rd enc Tryz.prog W 98 (([x0,x1,x2,x3,x4,x5,x6,x7,x8].drop 3).take (Tryz.prog.cellsOf 98)):=h2 3 _ rfl;rw[c3] at f3;obtain⟨n3,e3,l3,m3⟩:=ZQ1 f3;have c4:Tryz.prog.cellsOf 3=1:=by kernel_rfl
 have f4:Rd enc Tryz.prog W 3 (([x0,x1,x2,x3,x4,x5,x6,x7,x8].drop 5).take (Tryz.prog.cellsOf 3)):=h2 4 _ rfl;rw[c4] at f4;obtain⟨n4,e4,l4⟩:=ZBT Tryz.underlying3 f4;have c5:Tryz.prog.cellsOf 3=1:=by kernel_rfl
 have f5:Rd enc Tryz.prog W 3 (([x0,x1,x2,x3,x4,x5,x6,x7,x8].drop 6).take (Tryz.prog.cellsOf 3)):=h2 5 _ rfl;rw[c5] at f5;obtain⟨n5,e5,l5⟩:=ZBT Tryz.underlying3 f5;have c6:Tryz.prog.cellsOf 3=1:=by kernel_rfl
 have f6:Rd enc Tryz.prog W 3 (([x0,x1,x2,x3,x4,x5,x6,x7,x8].drop 7).take (Tryz.prog.cellsOf 3)):=h2 6 _ rfl;rw[c6] at f6;obtain⟨n6,e6,l6⟩:=ZBT Tryz.underlying3 f6;have c7:Tryz.prog.cellsOf 4=1:=by kernel_rfl
 have f7:Rd enc Tryz.prog W 4 (([x0,x1,x2,x3,x4,x5,x6,x7,x8].drop 8).take (Tryz.prog.cellsOf 4)):=h2 7 _ rfl;rw[c7] at f7;obtain⟨n7,e7⟩:=ZUl Tryz.underlying4 f7;simp at e0 e1 e2 e3 e4 e5 e6 e7;subst e0;subst e1;subst e2;obtain⟨rfl,rfl⟩:=e3;subst e4;subst e5;subst e6;subst e7;refine⟨⟨n0,n1,n2,n3,n4,n5,n6,n7⟩,rfl,rfl,⟨l0,l1,l2,⟨l3,m3⟩,l4,l5,l6⟩⟩
theorem ZTF (h:Rd enc Tryz.prog W 100 cs):∃v:ScR,cs.all (okv W.heap.size)=true/\ScRR (ro W) (cs.map nz) v/\v.Fit:=by
 have cS:Tryz.prog.cellsOf 100=5:=by kernel_rfl
 obtain⟨h1,h2⟩:=ZBl Tryz.underlying100 h;rw[cS] at h1;obtain⟨x0,x1,x2,x3,x4,rfl⟩:∃x0 x1 x2 x3 x4,cs=[x0,x1,x2,x3,x4]:=by
  match cs,h1 with
  | [x0,x1,x2,x3,x4],_=>exact⟨x0,x1,x2,x3,x4,rfl⟩
 have c0:Tryz.prog.cellsOf 9=1:=by kernel_rfl
 have f0:Rd enc Tryz.prog W 9 (([x0,x1,x2,x3,x4].drop 0).take (Tryz.prog.cellsOf 9)):=h2 0 _ rfl;rw[c0] at f0;obtain⟨n0,e0,l0⟩:=ZBx Tryz.underlying9 f0;have c1:Tryz.prog.cellsOf 9=1:=by kernel_rfl
 have f1:Rd enc Tryz.prog W 9 (([x0,x1,x2,x3,x4].drop 1).take (Tryz.prog.cellsOf 9)):=h2 1 _ rfl;rw[c1] at f1;obtain⟨n1,e1,l1⟩:=ZBx Tryz.underlying9 f1;have c2:Tryz.prog.cellsOf 3=1:=by kernel_rfl
 have f2:Rd enc Tryz.prog W 3 (([x0,x1,x2,x3,x4].drop 2).take (Tryz.prog.cellsOf 3)):=h2 2 _ rfl;rw[c2] at f2;obtain⟨n2,e2,l2⟩:=ZBT Tryz.underlying3 f2;have c3:Tryz.prog.cellsOf 98=2:=by kernel_rfl
 have f3:Rd enc Tryz.prog W 98 (([x0,x1,x2,x3,x4].drop 3).take (Tryz.prog.cellsOf 98)):=h2 3 _ rfl;rw[c3] at f3;obtain⟨n3,e3,l3,m3⟩:=ZQ1 f3;simp at e0 e1 e2 e3;subst e0;subst e1;subst e2;obtain⟨rfl,rfl⟩:=e3;refine⟨⟨n0,n1,n2,n3⟩,rfl,rfl,⟨l0,l1,l2,⟨l3,m3⟩⟩⟩
theorem ZTL (h:Rd enc Tryz.prog W 102 cs):∃v:ScP,cs.all (okv W.heap.size)=true/\ScPR (ro W) (cs.map nz) v/\v.Fit:=by
 have cS:Tryz.prog.cellsOf 102=7:=by kernel_rfl
 obtain⟨h1,h2⟩:=ZBl Tryz.underlying102 h;rw[cS] at h1;obtain⟨x0,x1,x2,x3,x4,x5,x6,rfl⟩:∃x0 x1 x2 x3 x4 x5 x6,cs=[x0,x1,x2,x3,x4,x5,x6]:=by
  match cs,h1 with
  | [x0,x1,x2,x3,x4,x5,x6],_=>exact⟨x0,x1,x2,x3,x4,x5,x6,rfl⟩
 have c0:Tryz.prog.cellsOf 9=1:=by kernel_rfl
 have f0:Rd enc Tryz.prog W 9 (([x0,x1,x2,x3,x4,x5,x6].drop 0).take (Tryz.prog.cellsOf 9)):=h2 0 _ rfl;rw[c0] at f0;obtain⟨n0,e0,l0⟩:=ZBx Tryz.underlying9 f0;have c1:Tryz.prog.cellsOf 9=1:=by kernel_rfl
 have f1:Rd enc Tryz.prog W 9 (([x0,x1,x2,x3,x4,x5,x6].drop 1).take (Tryz.prog.cellsOf 9)):=h2 1 _ rfl;rw[c1] at f1;obtain⟨n1,e1,l1⟩:=ZBx Tryz.underlying9 f1;have c2:Tryz.prog.cellsOf 9=1:=by kernel_rfl
 have f2:Rd enc Tryz.prog W 9 (([x0,x1,x2,x3,x4,x5,x6].drop 2).take (Tryz.prog.cellsOf 9)):=h2 2 _ rfl;rw[c2] at f2;obtain⟨n2,e2,l2⟩:=ZBx Tryz.underlying9 f2;have c3:Tryz.prog.cellsOf 39=1:=by kernel_rfl
 have f3:Rd enc Tryz.prog W 39 (([x0,x1,x2,x3,x4,x5,x6].drop 3).take (Tryz.prog.cellsOf 39)):=h2 3 _ rfl;rw[c3] at f3;obtain⟨v3,a3,n3,cap3,e3,ok3,nz3,hI3,hL3,hF3⟩:=ZRm Tryz.underlying39 Tryz.underlying3 (by kernel_rfl) f3;have c4:Tryz.prog.cellsOf 98=2:=by kernel_rfl
 have f4:Rd enc Tryz.prog W 98 (([x0,x1,x2,x3,x4,x5,x6].drop 4).take (Tryz.prog.cellsOf 98)):=h2 4 _ rfl;rw[c4] at f4;obtain⟨n4,e4,l4,m4⟩:=ZQ1 f4;have c5:Tryz.prog.cellsOf 3=1:=by kernel_rfl
 have f5:Rd enc Tryz.prog W 3 (([x0,x1,x2,x3,x4,x5,x6].drop 6).take (Tryz.prog.cellsOf 3)):=h2 5 _ rfl;rw[c5] at f5;obtain⟨n5,e5,l5⟩:=ZBT Tryz.underlying3 f5;simp at e0 e1 e2 e3 e4 e5;subst e0;subst e1;subst e2;subst e3;obtain⟨rfl,rfl⟩:=e4;subst e5;refine⟨⟨n0,n1,n2,n3,n4,n5⟩,?_,⟨a3,cap3,?_,hI3⟩,⟨l0,l1,l2,hL3,hF3,⟨l4,m4⟩,l5⟩⟩
 ·simp[ok3]
  try (repeat' constructor)
 ·simp only[List.map_cons,List.map_nil,nz3];rfl
theorem ZUA (h:Rd enc Tryz.prog W 104 cs):∃v:ScPk,cs.all (okv W.heap.size)=true/\ZDC (ro W) (cs.map nz) v/\v.Fit:=by
 have cS:Tryz.prog.cellsOf 104=5:=by kernel_rfl
 obtain⟨h1,h2⟩:=ZBl Tryz.underlying104 h;rw[cS] at h1;obtain⟨x0,x1,x2,x3,x4,rfl⟩:∃x0 x1 x2 x3 x4,cs=[x0,x1,x2,x3,x4]:=by
  match cs,h1 with
  | [x0,x1,x2,x3,x4],_=>exact⟨x0,x1,x2,x3,x4,rfl⟩
 have c0:Tryz.prog.cellsOf 9=1:=by kernel_rfl
 have f0:Rd enc Tryz.prog W 9 (([x0,x1,x2,x3,x4].drop 0).take (Tryz.prog.cellsOf 9)):=h2 0 _ rfl;rw[c0] at f0;obtain⟨n0,e0,l0⟩:=ZBx Tryz.underlying9 f0;have c1:Tryz.prog.cellsOf 9=1:=by kernel_rfl
 have f1:Rd enc Tryz.prog W 9 (([x0,x1,x2,x3,x4].drop 1).take (Tryz.prog.cellsOf 9)):=h2 1 _ rfl;rw[c1] at f1;obtain⟨n1,e1,l1⟩:=ZBx Tryz.underlying9 f1;have c2:Tryz.prog.cellsOf 9=1:=by kernel_rfl
 have f2:Rd enc Tryz.prog W 9 (([x0,x1,x2,x3,x4].drop 2).take (Tryz.prog.cellsOf 9)):=h2 2 _ rfl;rw[c2] at f2;obtain⟨n2,e2,l2⟩:=ZBx Tryz.underlying9 f2;have c3:Tryz.prog.cellsOf 3=1:=by kernel_rfl
 have f3:Rd enc Tryz.prog W 3 (([x0,x1,x2,x3,x4].drop 3).take (Tryz.prog.cellsOf 3)):=h2 3 _ rfl;rw[c3] at f3;obtain⟨n3,e3,l3⟩:=ZBT Tryz.underlying3 f3;have c4:Tryz.prog.cellsOf 3=1:=by kernel_rfl
 have f4:Rd enc Tryz.prog W 3 (([x0,x1,x2,x3,x4].drop 4).take (Tryz.prog.cellsOf 3)):=h2 4 _ rfl;rw[c4] at f4;obtain⟨n4,e4,l4⟩:=ZBT Tryz.underlying3 f4;simp at e0 e1 e2 e3 e4;subst e0;subst e1;subst e2;subst e3;subst e4;refine⟨⟨n0,n1,n2,n3,n4⟩,rfl,rfl,⟨l0,l1,l2,l3,l4⟩⟩
theorem ZVX (h:Rd enc Tryz.prog W 288 cs):∃v:ScK,cs.all (okv W.heap.size)=true/\ScKR (ro W) (cs.map nz) v/\v.Fit:=by
 have cS:Tryz.prog.cellsOf 288=4:=by kernel_rfl
 obtain⟨h1,h2⟩:=ZBl Tryz.underlying288 h;rw[cS] at h1;obtain⟨x0,x1,x2,x3,rfl⟩:∃x0 x1 x2 x3,cs=[x0,x1,x2,x3]:=by
  match cs,h1 with
  | [x0,x1,x2,x3],_=>exact⟨x0,x1,x2,x3,rfl⟩
 have c0:Tryz.prog.cellsOf 3=1:=by kernel_rfl
 have f0:Rd enc Tryz.prog W 3 (([x0,x1,x2,x3].drop 0).take (Tryz.prog.cellsOf 3)):=h2 0 _ rfl;rw[c0] at f0;obtain⟨n0,e0,l0⟩:=ZBT Tryz.underlying3 f0;have c1:Tryz.prog.cellsOf 3=1:=by kernel_rfl
 have f1:Rd enc Tryz.prog W 3 (([x0,x1,x2,x3].drop 1).take (Tryz.prog.cellsOf 3)):=h2 1 _ rfl;rw[c1] at f1;obtain⟨n1,e1,l1⟩:=ZBT Tryz.underlying3 f1;have c2:Tryz.prog.cellsOf 98=2:=by kernel_rfl
 have f2:Rd enc Tryz.prog W 98 (([x0,x1,x2,x3].drop 2).take (Tryz.prog.cellsOf 98)):=h2 2 _ rfl;rw[c2] at f2;obtain⟨n2,e2,l2,m2⟩:=ZQ1 f2;simp at e0 e1 e2;subst e0;subst e1;obtain⟨rfl,rfl⟩:=e2;refine⟨⟨n0,n1,n2⟩,rfl,rfl,⟨l0,l1,⟨l2,m2⟩⟩⟩
theorem ZUp (h:Rd enc Tryz.prog W 229 cs):∃v:ScL,cs.all (okv W.heap.size)=true/\ScLR (ro W) (cs.map nz) v/\v.Fit:=by
 have cS:Tryz.prog.cellsOf 229=4:=by kernel_rfl
 obtain⟨h1,h2⟩:=ZBl Tryz.underlying229 h;rw[cS] at h1;obtain⟨x0,x1,x2,x3,rfl⟩:∃x0 x1 x2 x3,cs=[x0,x1,x2,x3]:=by
  match cs,h1 with
  | [x0,x1,x2,x3],_=>exact⟨x0,x1,x2,x3,rfl⟩
 have c0:Tryz.prog.cellsOf 3=1:=by kernel_rfl
 have f0:Rd enc Tryz.prog W 3 (([x0,x1,x2,x3].drop 0).take (Tryz.prog.cellsOf 3)):=h2 0 _ rfl;rw[c0] at f0;obtain⟨n0,e0,l0⟩:=ZBT Tryz.underlying3 f0;have c1:Tryz.prog.cellsOf 3=1:=by kernel_rfl
 have f1:Rd enc Tryz.prog W 3 (([x0,x1,x2,x3].drop 1).take (Tryz.prog.cellsOf 3)):=h2 1 _ rfl;rw[c1] at f1;obtain⟨n1,e1,l1⟩:=ZBT Tryz.underlying3 f1;have c2:Tryz.prog.cellsOf 98=2:=by kernel_rfl
 have f2:Rd enc Tryz.prog W 98 (([x0,x1,x2,x3].drop 2).take (Tryz.prog.cellsOf 98)):=h2 2 _ rfl;rw[c2] at f2;obtain⟨n2,e2,l2,m2⟩:=ZQ1 f2;simp at e0 e1 e2;subst e0;subst e1;obtain⟨rfl,rfl⟩:=e2;refine⟨⟨n0,n1,n2⟩,rfl,rfl,⟨l0,l1,⟨l2,m2⟩⟩⟩
theorem ZUe (h:Rd enc Tryz.prog W 93 cs):∃v:ScS,cs.all (okv W.heap.size)=true/\ScSR (ro W) (cs.map nz) v/\v.Fit:=by
 have cS:Tryz.prog.cellsOf 93=6:=by kernel_rfl
 obtain⟨h1,h2⟩:=ZBl Tryz.underlying93 h;rw[cS] at h1;obtain⟨x0,x1,x2,x3,x4,x5,rfl⟩:∃x0 x1 x2 x3 x4 x5,cs=[x0,x1,x2,x3,x4,x5]:=by
  match cs,h1 with
  | [x0,x1,x2,x3,x4,x5],_=>exact⟨x0,x1,x2,x3,x4,x5,rfl⟩
 have c0:Tryz.prog.cellsOf 3=1:=by kernel_rfl
 have f0:Rd enc Tryz.prog W 3 (([x0,x1,x2,x3,x4,x5].drop 0).take (Tryz.prog.cellsOf 3)):=h2 0 _ rfl;rw[c0] at f0;obtain⟨n0,e0,l0⟩:=ZBT Tryz.underlying3 f0;have c1:Tryz.prog.cellsOf 3=1:=by kernel_rfl
 have f1:Rd enc Tryz.prog W 3 (([x0,x1,x2,x3,x4,x5].drop 1).take (Tryz.prog.cellsOf 3)):=h2 1 _ rfl;rw[c1] at f1;obtain⟨n1,e1,l1⟩:=ZBT Tryz.underlying3 f1;have c2:Tryz.prog.cellsOf 3=1:=by kernel_rfl
 have f2:Rd enc Tryz.prog W 3 (([x0,x1,x2,x3,x4,x5].drop 2).take (Tryz.prog.cellsOf 3)):=h2 2 _ rfl;rw[c2] at f2;obtain⟨n2,e2,l2⟩:=ZBT Tryz.underlying3 f2;have c3:Tryz.prog.cellsOf 3=1:=by kernel_rfl
 have f3:Rd enc Tryz.prog W 3 (([x0,x1,x2,x3,x4,x5].drop 3).take (Tryz.prog.cellsOf 3)):=h2 3 _ rfl;rw[c3] at f3;obtain⟨n3,e3,l3⟩:=ZBT Tryz.underlying3 f3;have c4:Tryz.prog.cellsOf 3=1:=by kernel_rfl
 have f4:Rd enc Tryz.prog W 3 (([x0,x1,x2,x3,x4,x5].drop 4).take (Tryz.prog.cellsOf 3)):=h2 4 _ rfl;rw[c4] at f4;obtain⟨n4,e4,l4⟩:=ZBT Tryz.underlying3 f4;have c5:Tryz.prog.cellsOf 3=1:=by kernel_rfl
 have f5:Rd enc Tryz.prog W 3 (([x0,x1,x2,x3,x4,x5].drop 5).take (Tryz.prog.cellsOf 3)):=h2 5 _ rfl;rw[c5] at f5;obtain⟨n5,e5,l5⟩:=ZBT Tryz.underlying3 f5;simp at e0 e1 e2 e3 e4 e5;subst e0;subst e1;subst e2;subst e3;subst e4;subst e5;refine⟨⟨n0,n1,n2,n3,n4,n5⟩,rfl,rfl,⟨l0,l1,l2,l3,l4,l5⟩⟩
theorem ZQu (h:Rd enc Tryz.prog W 91 cs):∃v:ScT,cs.all (okv W.heap.size)=true/\ZDk (ro W) (cs.map nz) v/\v.Fit:=by
 have cS:Tryz.prog.cellsOf 91=9:=by kernel_rfl
 obtain⟨h1,h2⟩:=ZBl Tryz.underlying91 h;rw[cS] at h1;obtain⟨x0,x1,x2,x3,x4,x5,x6,x7,x8,rfl⟩:∃x0 x1 x2 x3 x4 x5 x6 x7 x8,cs=[x0,x1,x2,x3,x4,x5,x6,x7,x8]:=by
  match cs,h1 with
  | [x0,x1,x2,x3,x4,x5,x6,x7,x8],_=>exact⟨x0,x1,x2,x3,x4,x5,x6,x7,x8,rfl⟩
 have c0:Tryz.prog.cellsOf 3=1:=by kernel_rfl
 have f0:Rd enc Tryz.prog W 3 (([x0,x1,x2,x3,x4,x5,x6,x7,x8].drop 0).take (Tryz.prog.cellsOf 3)):=h2 0 _ rfl;rw[c0] at f0;obtain⟨n0,e0,l0⟩:=ZBT Tryz.underlying3 f0;have c1:Tryz.prog.cellsOf 38=1:=by kernel_rfl
 have f1:Rd enc Tryz.prog W 38 (([x0,x1,x2,x3,x4,x5,x6,x7,x8].drop 1).take (Tryz.prog.cellsOf 38)):=h2 1 _ rfl;rw[c1] at f1;obtain⟨v1,a1,n1,cap1,e1,ok1,nz1,hI1,hL1,hF1⟩:=ZSW f1;have c2:Tryz.prog.cellsOf 83=1:=by kernel_rfl
 have f2:Rd enc Tryz.prog W 83 (([x0,x1,x2,x3,x4,x5,x6,x7,x8].drop 2).take (Tryz.prog.cellsOf 83)):=h2 2 _ rfl;rw[c2] at f2;obtain⟨v2,a2,n2,cap2,e2,ok2,nz2,hI2,hL2,hF2⟩:=ZFA (R:=ZCh) (Fit:=fun l=>Len l/\∀n∈l,I64 n) Tryz.underlying83 (k:=1) (by kernel_rfl) (by decide) (fun row hr=>ZUx hr) f2;have c3:Tryz.prog.cellsOf 84=1:=by kernel_rfl
 have f3:Rd enc Tryz.prog W 84 (([x0,x1,x2,x3,x4,x5,x6,x7,x8].drop 3).take (Tryz.prog.cellsOf 84)):=h2 3 _ rfl;rw[c3] at f3;obtain⟨v3,a3,n3,cap3,e3,ok3,nz3,hI3,hL3,hF3⟩:=ZFA (R:=ScVR) (Fit:=ScV.Fit) Tryz.underlying84 (k:=9) (by kernel_rfl) (by decide) (fun row hr=>ZSr hr) f3;have c4:Tryz.prog.cellsOf 85=1:=by kernel_rfl
 have f4:Rd enc Tryz.prog W 85 (([x0,x1,x2,x3,x4,x5,x6,x7,x8].drop 4).take (Tryz.prog.cellsOf 85)):=h2 4 _ rfl;rw[c4] at f4;obtain⟨v4,a4,n4,cap4,e4,ok4,nz4,hI4,hL4,hF4⟩:=ZFA (R:=ScRR) (Fit:=ScR.Fit) Tryz.underlying85 (k:=5) (by kernel_rfl) (by decide) (fun row hr=>ZTF hr) f4;have c5:Tryz.prog.cellsOf 86=1:=by kernel_rfl
 have f5:Rd enc Tryz.prog W 86 (([x0,x1,x2,x3,x4,x5,x6,x7,x8].drop 5).take (Tryz.prog.cellsOf 86)):=h2 5 _ rfl;rw[c5] at f5;obtain⟨v5,a5,n5,cap5,e5,ok5,nz5,hI5,hL5,hF5⟩:=ZFA (R:=ScPR) (Fit:=ScP.Fit) Tryz.underlying86 (k:=7) (by kernel_rfl) (by decide) (fun row hr=>ZTL hr) f5;have c6:Tryz.prog.cellsOf 87=1:=by kernel_rfl
 have f6:Rd enc Tryz.prog W 87 (([x0,x1,x2,x3,x4,x5,x6,x7,x8].drop 6).take (Tryz.prog.cellsOf 87)):=h2 6 _ rfl;rw[c6] at f6;obtain⟨v6,a6,n6,cap6,e6,ok6,nz6,hI6,hL6,hF6⟩:=ZFA (R:=ZDC) (Fit:=ScPk.Fit) Tryz.underlying87 (k:=5) (by kernel_rfl) (by decide) (fun row hr=>ZUA hr) f6;have c7:Tryz.prog.cellsOf 88=1:=by kernel_rfl
 have f7:Rd enc Tryz.prog W 88 (([x0,x1,x2,x3,x4,x5,x6,x7,x8].drop 7).take (Tryz.prog.cellsOf 88)):=h2 7 _ rfl;rw[c7] at f7;obtain⟨v7,a7,n7,cap7,e7,ok7,nz7,hI7,hL7,hF7⟩:=ZFA (R:=ScKR) (Fit:=ScK.Fit) Tryz.underlying88 (k:=4) (by kernel_rfl) (by decide) (fun row hr=>ZVX hr) f7;have c8:Tryz.prog.cellsOf 89=1:=by kernel_rfl
 have f8:Rd enc Tryz.prog W 89 (([x0,x1,x2,x3,x4,x5,x6,x7,x8].drop 8).take (Tryz.prog.cellsOf 89)):=h2 8 _ rfl;rw[c8] at f8;obtain⟨v8,a8,n8,cap8,e8,ok8,nz8,hI8,hL8,hF8⟩:=ZFA (R:=ScLR) (Fit:=ScL.Fit) Tryz.underlying89 (k:=4) (by kernel_rfl) (by decide) (fun row hr=>ZUp hr) f8;simp at e0 e1 e2 e3 e4 e5 e6 e7 e8;subst e0;subst e1;subst e2;subst e3;subst e4;subst e5;subst e6;subst e7;subst e8;refine⟨⟨n0,n1,n2,n3,n4,n5,n6,n7,n8⟩,?_,⟨a1,cap1,a2,cap2,a3,cap3,a4,cap4,a5,cap5,a6,cap6,a7,cap7,a8,cap8,?_,hI1,hI2,hI3,hI4,hI5,hI6,hI7,hI8⟩,⟨l0,hL1,hF1,hL2,hF2,hL3,hF3,hL4,hF4,hL5,hF5,hL6,hF6,hL7,hF7,hL8,hF8⟩⟩
 ·simp[ok1,ok2,ok3,ok4,ok5,ok6,ok7,ok8]
  try (repeat' constructor)
 ·simp only[List.map_cons,List.map_nil,nz1,nz2,nz3,nz4,nz5,nz6,nz7,nz8];rfl
end
end Go.Dw
