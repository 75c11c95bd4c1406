/- G1: contracts of screen.named and screen.each, for each type. -/
import Derived.Test.YtfgeelpahicelaaGreatDoorXG2
import Derived.Test.YtfgeelpahicelaaGreatDoorXG5
import Derived.Test.YtfgeelpahicelaaGreatDoorXG6
import Derived.Test.YtfgeelpahicelaaGreatDoorXG4
set_option linter.unusedVariables false
set_option linter.unusedSimpArgs false
namespace Go.Dw
open Go Go.Dx Go.Proofs
set_option maxRecDepth 100000
theorem ZQn (a b:List UInt8):((⟨⟨a⟩⟩:ByteArray) == ⟨⟨b⟩⟩)=decide (a=b):=by
 have:((⟨⟨a⟩⟩:ByteArray) == ⟨⟨b⟩⟩)=((⟨a⟩:Array UInt8) == ⟨b⟩):=rfl;rw[this,Bool.eq_iff_iff];simp
noncomputable def strK:KeyK Tryz.prog 9 (List UInt8) where
 enc:=str
 ks:=.basic .string
 hks:=by kernel_rfl
 flat:=fun _=>rfl
 ok:=fun _=>rfl
 eq:=fun a b=>by
  show Instr.sameNow .string (str a) (str b)=_
  simp[Instr.sameNow,ZQn]
 same:=fun a=>by simp[Instr.sameBits,ZQn]
structure NmI (h0 h:Heap)(bm:Nat)(ZAi:List (List UInt8)):Prop where
 ext:Ext h0 h
 mp:∃l,ZDM strK h bm l/\∀s,lkp s l=if s∈ZAi then some (.bool true) else none
 lt:h0.nx<=bm
theorem NmI.grow {h0 h h':Heap}{bm:Nat}{ZAi:List (List UInt8)}(c:NmI h0 h bm ZAi)(he:Ext h h'):NmI h0 h' bm ZAi:=by
 obtain⟨l,m1,m2⟩:=c.mp;exact⟨c.ext.trans he,⟨l,m1.ext _ he,m2⟩,c.lt⟩
theorem NmI.upd {h0 h h':Heap}{bm x:Nat}{ZAi:List (List UInt8)}{o:AO}(c:NmI h0 h bm ZAi)(u:Upd h x o h')(hw:WF h0)(hx:h0.nx<=x)(h2:bm≠x):NmI h0 h' bm ZAi:=by
 obtain⟨l,m1,m2⟩:=c.mp;exact⟨u.ext c.ext hw hx,⟨l,m1.get _ (u.other _ h2),m2⟩,c.lt⟩
theorem ZLu {ZAi:List (List UInt8)}{l:List (List UInt8×Value)}{s:List UInt8}(h:∀x,lkp x l=if x∈ZAi then some (.bool true) else none)(x:List UInt8):lkp x (setK s (.bool true) l)=if x∈ZAi++[s] then some (.bool true) else none:=by
 rw[ZJA,h x]
 by_cases hx:x=s
 ·simp[hx]
 ·simp[hx]
def oI:Option (Nat×Int)->Int
 | none=>0
 | some (i,_)=>(i:Nat)
def oE:Option (Nat×Int)->Int
 | none=>0
 | some (_,e)=>e
def tupO (o:Option (Nat×Int)):Value:=.tuple ⟨[i64 (oI o),i64 (oE o)]⟩
theorem ZIV {α:Type}{nm:α->List UInt8}{wrong:α->Int}:∀{l:List α}{i:Nat}{b:List (List UInt8)}{j:Nat}{e:Int},goNm nm wrong i b l=some (j,e)->e≠0:=by
 intro l
 induction l with
 | nil=>intro i b j e h;cases h
 | cons x l ih =>
  intro i b j e h;unfold goNm at h
  split at h
  ·rename_i h1;cases h;exact h1
  ·split at h
   ·rename_i h2;cases h;exact h2
   ·exact ih h
theorem ZKs {α:Type}{wrong:α->Int}:∀{l:List α}{i:Nat}{j:Nat}{e:Int},goEa wrong i l=some (j,e)->e≠0:=by
 intro l
 induction l with
 | nil=>intro i j e h;cases h
 | cons x l ih =>
  intro i j e h;unfold goEa at h
  split at h
  ·rename_i h1;cases h;exact h1
  ·exact ih h
theorem ZGi {p:Int}{o:Option (Nat×Int)}{x:Int×Int×Int}(h:¬oE o=0):orE p o x=(p,oI o,oE o):=by
 cases o with
 | none=>exact absurd rfl h
 | some y=>rfl
theorem ZG8 {p:Int}{o:Option (Nat×Int)}{x:Int×Int×Int}(hn:∀{j:Nat}{e:Int},o=some (j,e)->e≠0)(h:oE o=0):orE p o x=x:=by
 cases o with
 | none=>rfl
 | some y=>exact absurd h (hn (e:=y.2) rfl)
theorem ZNq {a:Option Addr}{cap:Nat}{l:List (List UInt8)}{wrong:(List UInt8)->Int}{h:Heap}{g1 g2:FuncId}{f2:List Value}(hI:ZF8 h a l)(hlen:Len l)(hN:∀x∈l,Len (x))(hb1:ZAm Tryz.prog g1=true)(hb2:ZAm Tryz.prog g2=true)
  (hp1:(∀h1,Ext h h1->∀x,x∈l->Sv Tryz.prog g1 ([]++([str x]++[])) h1 (RetP fun v h'=>v=str (x)/\Ext h1 h')))
  (hp2:(∀h1,Ext h h1->∀x,x∈l->Sv Tryz.prog g2 (f2++([str x]++[])) h1 (RetP fun v h'=>v=i64 (wrong x)/\Ext h1 h'))) :
  Sv Tryz.prog 56 [.slice a l.length cap,.func (.func g1) ⟨[]⟩ ⟨[]⟩,.func (.func g2) ⟨f2⟩ ⟨[]⟩] h (RetP fun v h'=>v=tupO (goNm id wrong 0 [] l)/\Ext h h'):=by
 refine ZAy fun hw=>?_;refine ZAH Tryz.func56 rfl (by rw[Tryz.ntmps56];rfl) ?_;show Wc Tryz.prog ⟨56,44,none⟩ _ _ _ _ _;refine zy ?_;refine ZFL rfl rfl fun h6 hE6 hW6 hg6 hn6=>?_;have hI0:NmI h h6 h.nx []:=⟨hE6,⟨[],ZDM.new _ hg6,fun _=>rfl⟩,Nat.le_refl _⟩;generalize hbm:h.nx=bm at *;refine zy ?_
 refine ZAT (fun (k:Nat) m ds h'=>ds=[]/\k<=l.length/\NmI h h' bm ((l.take k).map id)/\goNm id wrong 0 [] l=goNm id wrong k ((l.take k).map id) (l.drop k) ∧
   AllK m [(1,.func (.func g1) ⟨[]⟩ ⟨[]⟩),(2,.func (.func g2) ⟨f2⟩ ⟨[]⟩),(8,.map (some bm)),(14,.slice a l.length cap),(15,i64 l.length),(16,i64 k)]) (fun k=>l.length-k) 0 ?_ ?_
 ·exact⟨rfl,Nat.zero_le _,hI0,rfl,rfl,rfl,rfl,rfl,rfl,rfl,trivial⟩
 clear hI0 hg6 hE6 hW6 hn6;clear h6;rintro k m ds h1 ⟨rfl,hk,hC,hgo,hall⟩;refine ZDG fun hw1=>?_;refine Wc.le ?_ (Le.kn hall);refine zy ?_;refine ZAE rfl rfl rfl rfl (ZAW rfl rfl) (fun h6=>?_) (fun h6=>?_)
 ·have hk':k<l.length:=by simpa using h6
  have hdr:l.drop k=l[k]::l.drop (k+1):=List.drop_eq_getElem_cons hk';have htk:l.take (k+1)=l.take k++[l[k]]:=by rw[List.take_add_one,List.getElem?_eq_getElem hk'];rfl
  rw[hdr,goNm] at hgo;have hxm:=List.getElem_mem hk';obtain⟨b,o,oa,rfl,hc⟩:=hI k hk';have hxN:=hN _ hxm;generalize hmk:l[k]=x at *;replace hc:=hC.ext.cell hc;refine zy ?_;refine ZAI rfl rfl rfl rfl (A_ix Und.h Tsz.h rfl rfl) ?_;refine zy ?_;refine ZAS rfl rfl rfl rfl rfl hb1 rfl rfl (hp1 h1 hC.ext _ hxm) fun h4 hE4=>?_;have hC3:=hC.grow hE4;refine zy ?_;refine ZAn rfl rfl rfl rfl rfl Bod.h rfl rfl (ZBQ _ _ hxN) (fun h8 h9 hE9=>?_) (fun h8 h9 hE9=>?_);rotate_left
  ·refine zy ?_
   refine ZAC (ZAD rfl ⟨?_,(hC3.grow hE9).ext⟩);rw[ZBW] at h8;have hne:ZAe (x) ((l.take k).map id)=6:=by simp[ZAe,h8]
   rw[show ZAe (id x) ((l.take k).map id)=6 from hne,if_pos (by decide)] at hgo;rw[hgo];rfl
  rw[ZBW] at h8;replace hC3:=hC3.grow hE9;obtain⟨l',mp1,mp2⟩:=hC3.mp;refine zy ?_;refine ZAI rfl rfl rfl rfl (ZGV strK Und.h Zr.h rfl mp1 (k:=x) rfl) ?_;rw[mp2]
  by_cases hin:x∈(l.take k).map id
  ·rw[if_pos hin]
   refine zy ?_;refine ZAC (ZAD rfl ⟨?_,hC3.ext⟩);have hne:ZAe (x) ((l.take k).map id)=5:=by rw[ZAe,if_neg (by rw[h8];simp),if_pos hin]
   rw[show ZAe (id x) ((l.take k).map id)=5 from hne,if_pos (by decide)] at hgo;rw[hgo];rfl
  rw[if_neg hin];have hne:ZAe (x) ((l.take k).map id)=0:=by rw[ZAe,if_neg (by rw[h8];simp),if_neg hin]
  rw[show ZAe (id x) ((l.take k).map id)=0 from hne,if_neg (by decide)] at hgo;refine zy ?_;refine ZAS rfl rfl rfl rfl rfl hb2 rfl rfl (hp2 _ hC3.ext _ hxm) fun h12 hE12=>?_;refine zy ?_;refine ZAE rfl rfl rfl rfl (ZAb rfl rfl) (fun h10=>?_) (fun h10=>?_)
  ·refine zy ?_
   refine ZAC (ZAD rfl ⟨?_,(hC3.grow hE12).ext⟩);rw[if_pos h10] at hgo;rw[hgo];rfl
  rw[if_neg h10] at hgo;replace hC3:=hC3.grow hE12;obtain⟨l',mp1,mp2⟩:=hC3.mp;refine zy ?_;refine ZC5 strK rfl Und.h rfl mp1 (k:=x) rfl rfl fun h13 o13 hU13 hM13=>?_;refine zy ?_;refine⟨k+1,?_,rfl,hk',?_,?_,rfl,rfl,rfl,rfl,rfl,rfl,trivial⟩
  ·show l.length-(k+1)<l.length-k;omega
  ·rw[htk,List.map_append]
   refine⟨hU13.ext hC3.ext hw hC3.lt,⟨_,hM13,?_⟩,hC3.lt⟩;exact fun x=>ZLu mp2 x
  ·rw[htk,List.map_append];exact hgo
 have hgN:goNm id wrong 0 [] l=none:=by
  have hk2:k=l.length:=by omega
  rw[hgo,hk2,List.drop_length];rfl
 refine zy ?_;exact ZAC (ZAD rfl ⟨by rw[hgN];rfl,hC.ext⟩)
theorem ZOL {a:Option Addr}{cap:Nat}{l:List ScV}{wrong:ScV->Int}{h:Heap}{g1 g2:FuncId}{f2:List Value}(hI:ZAN 9 ScVR h a l)(hlen:Len l)(hN:∀x∈l,Len (ScV.name x))(hb1:ZAm Tryz.prog g1=true)(hb2:ZAm Tryz.prog g2=true)
  (hp1:(∀h1,Ext h h1->∀row x,x∈l->ScVR h1 row x->Sv Tryz.prog g1 ([]++([.agg ⟨row⟩]++[])) h1 (RetP fun v h'=>v=str (ScV.name x)/\Ext h1 h')))
  (hp2:(∀h1,Ext h h1->∀row x,x∈l->ScVR h1 row x->Sv Tryz.prog g2 (f2++([.agg ⟨row⟩]++[])) h1 (RetP fun v h'=>v=i64 (wrong x)/\Ext h1 h'))) :
  Sv Tryz.prog 60 [.slice a l.length cap,.func (.func g1) ⟨[]⟩ ⟨[]⟩,.func (.func g2) ⟨f2⟩ ⟨[]⟩] h (RetP fun v h'=>v=tupO (goNm ScV.name wrong 0 [] l)/\Ext h h'):=by
 refine ZAy fun hw=>?_;refine ZAH Tryz.func60 rfl (by rw[Tryz.ntmps60];rfl) ?_;show Wc Tryz.prog ⟨60,44,none⟩ _ _ _ _ _;refine zy ?_;refine ZFL rfl rfl fun h6 hE6 hW6 hg6 hn6=>?_;have hI0:NmI h h6 h.nx []:=⟨hE6,⟨[],ZDM.new _ hg6,fun _=>rfl⟩,Nat.le_refl _⟩;generalize hbm:h.nx=bm at *;refine zy ?_
 refine ZAT (fun (k:Nat) m ds h'=>ds=[]/\k<=l.length/\NmI h h' bm ((l.take k).map ScV.name)/\goNm ScV.name wrong 0 [] l=goNm ScV.name wrong k ((l.take k).map ScV.name) (l.drop k) ∧
   AllK m [(1,.func (.func g1) ⟨[]⟩ ⟨[]⟩),(2,.func (.func g2) ⟨f2⟩ ⟨[]⟩),(8,.map (some bm)),(14,.slice a l.length cap),(15,i64 l.length),(16,i64 k)]) (fun k=>l.length-k) 0 ?_ ?_
 ·exact⟨rfl,Nat.zero_le _,hI0,rfl,rfl,rfl,rfl,rfl,rfl,rfl,trivial⟩
 clear hI0 hg6 hE6 hW6 hn6;clear h6;rintro k m ds h1 ⟨rfl,hk,hC,hgo,hall⟩;refine ZDG fun hw1=>?_;refine Wc.le ?_ (Le.kn hall);refine zy ?_;refine ZAE rfl rfl rfl rfl (ZAW rfl rfl) (fun h6=>?_) (fun h6=>?_)
 ·have hk':k<l.length:=by simpa using h6
  have hdr:l.drop k=l[k]::l.drop (k+1):=List.drop_eq_getElem_cons hk';have htk:l.take (k+1)=l.take k++[l[k]]:=by rw[List.take_add_one,List.getElem?_eq_getElem hk'];rfl
  rw[hdr,goNm] at hgo;have hxm:=List.getElem_mem hk';obtain⟨b,o,oa,rfl,row,hrow,hma⟩:=hI k hk';have hxN:=hN _ hxm;generalize hmk:l[k]=x at *;have hma0:=hma;obtain rfl:=hma;have hrow1:=hC.ext.row hrow;refine zy ?_;refine ZAI rfl rfl rfl rfl (A_ix Und.h Tsz.h rfl rfl) ?_;refine zy ?_;refine ZCD rfl rfl Zr.h fun h2 hE2 hW2 hg2 hn2=>?_;refine zy ?_;refine ZBF rfl Tsz.h rfl rfl hg2 rfl rfl rfl fun h3 hU3=>?_;have hbmn:bm≠h1.nx:=by
   obtain⟨l,⟨es,c,e1,_⟩,_⟩:=hC.mp;have:=hw1 _ _ e1;omega
  have hC3:=(hC.grow hE2).upd hU3 hw hC.ext.2.1 hbmn;have hg7:=hU3.at';generalize h1.nx=b7 at *;clear hU3;refine zy ?_;refine ZAS rfl rfl rfl rfl rfl hb1 rfl rfl (hp1 h3 hC3.ext _ _ hxm (rfl)) fun h4 hE4=>?_;replace hC3:=hC3.grow hE4;replace hg7:=hE4.get hg7;refine zy ?_;refine ZAn rfl rfl rfl rfl rfl Bod.h rfl rfl (ZBQ _ _ hxN) (fun h8 h9 hE9=>?_) (fun h8 h9 hE9=>?_);rotate_left
  ·refine zy ?_
   refine ZAC (ZAD rfl ⟨?_,(hC3.grow hE9).ext⟩);rw[ZBW] at h8;have hne:ZAe (ScV.name x) ((l.take k).map ScV.name)=6:=by simp[ZAe,h8]
   rw[show ZAe (ScV.name x) ((l.take k).map ScV.name)=6 from hne,if_pos (by decide)] at hgo;rw[hgo];rfl
  rw[ZBW] at h8;replace hC3:=hC3.grow hE9;replace hg7:=hE9.get hg7;obtain⟨l',mp1,mp2⟩:=hC3.mp;refine zy ?_;refine ZAI rfl rfl rfl rfl (ZGV strK Und.h Zr.h rfl mp1 (k:=ScV.name x) rfl) ?_;rw[mp2]
  by_cases hin:ScV.name x∈(l.take k).map ScV.name
  ·rw[if_pos hin]
   refine zy ?_;refine ZAC (ZAD rfl ⟨?_,hC3.ext⟩);have hne:ZAe (ScV.name x) ((l.take k).map ScV.name)=5:=by rw[ZAe,if_neg (by rw[h8];simp),if_pos hin]
   rw[show ZAe (ScV.name x) ((l.take k).map ScV.name)=5 from hne,if_pos (by decide)] at hgo;rw[hgo];rfl
  rw[if_neg hin];have hne:ZAe (ScV.name x) ((l.take k).map ScV.name)=0:=by rw[ZAe,if_neg (by rw[h8];simp),if_neg hin]
  rw[show ZAe (ScV.name x) ((l.take k).map ScV.name)=0 from hne,if_neg (by decide)] at hgo;refine zy ?_;refine ZAS rfl rfl rfl rfl rfl hb2 rfl rfl (hp2 _ hC3.ext _ _ hxm (rfl)) fun h12 hE12=>?_;refine zy ?_;refine ZAE rfl rfl rfl rfl (ZAb rfl rfl) (fun h10=>?_) (fun h10=>?_)
  ·refine zy ?_
   refine ZAC (ZAD rfl ⟨?_,(hC3.grow hE12).ext⟩);rw[if_pos h10] at hgo;rw[hgo];rfl
  rw[if_neg h10] at hgo;replace hC3:=hC3.grow hE12;obtain⟨l',mp1,mp2⟩:=hC3.mp;refine zy ?_;refine ZC5 strK rfl Und.h rfl mp1 (k:=ScV.name x) rfl rfl fun h13 o13 hU13 hM13=>?_;refine zy ?_;refine⟨k+1,?_,rfl,hk',?_,?_,rfl,rfl,rfl,rfl,rfl,rfl,trivial⟩
  ·show l.length-(k+1)<l.length-k;omega
  ·rw[htk,List.map_append]
   refine⟨hU13.ext hC3.ext hw hC3.lt,⟨_,hM13,?_⟩,hC3.lt⟩;exact fun x=>ZLu mp2 x
  ·rw[htk,List.map_append];exact hgo
 have hgN:goNm ScV.name wrong 0 [] l=none:=by
  have hk2:k=l.length:=by omega
  rw[hgo,hk2,List.drop_length];rfl
 refine zy ?_;exact ZAC (ZAD rfl ⟨by rw[hgN];rfl,hC.ext⟩)
theorem ZOa {a:Option Addr}{cap:Nat}{l:List ScP}{wrong:ScP->Int}{h:Heap}{g1 g2:FuncId}{f2:List Value}(hI:ZAN 7 ScPR h a l)(hlen:Len l)(hN:∀x∈l,Len (ScP.name x))(hb1:ZAm Tryz.prog g1=true)(hb2:ZAm Tryz.prog g2=true)
  (hp1:(∀h1,Ext h h1->∀row x,x∈l->ScPR h1 row x->Sv Tryz.prog g1 ([]++([.agg ⟨row⟩]++[])) h1 (RetP fun v h'=>v=str (ScP.name x)/\Ext h1 h')))
  (hp2:(∀h1,Ext h h1->∀row x,x∈l->ScPR h1 row x->Sv Tryz.prog g2 (f2++([.agg ⟨row⟩]++[])) h1 (RetP fun v h'=>v=i64 (wrong x)/\Ext h1 h'))) :
  Sv Tryz.prog 65 [.slice a l.length cap,.func (.func g1) ⟨[]⟩ ⟨[]⟩,.func (.func g2) ⟨f2⟩ ⟨[]⟩] h (RetP fun v h'=>v=tupO (goNm ScP.name wrong 0 [] l)/\Ext h h'):=by
 refine ZAy fun hw=>?_;refine ZAH Tryz.func65 rfl (by rw[Tryz.ntmps65];rfl) ?_;show Wc Tryz.prog ⟨65,44,none⟩ _ _ _ _ _;refine zy ?_;refine ZFL rfl rfl fun h6 hE6 hW6 hg6 hn6=>?_;have hI0:NmI h h6 h.nx []:=⟨hE6,⟨[],ZDM.new _ hg6,fun _=>rfl⟩,Nat.le_refl _⟩;generalize hbm:h.nx=bm at *;refine zy ?_
 refine ZAT (fun (k:Nat) m ds h'=>ds=[]/\k<=l.length/\NmI h h' bm ((l.take k).map ScP.name)/\goNm ScP.name wrong 0 [] l=goNm ScP.name wrong k ((l.take k).map ScP.name) (l.drop k) ∧
   AllK m [(1,.func (.func g1) ⟨[]⟩ ⟨[]⟩),(2,.func (.func g2) ⟨f2⟩ ⟨[]⟩),(8,.map (some bm)),(14,.slice a l.length cap),(15,i64 l.length),(16,i64 k)]) (fun k=>l.length-k) 0 ?_ ?_
 ·exact⟨rfl,Nat.zero_le _,hI0,rfl,rfl,rfl,rfl,rfl,rfl,rfl,trivial⟩
 clear hI0 hg6 hE6 hW6 hn6;clear h6;rintro k m ds h1 ⟨rfl,hk,hC,hgo,hall⟩;refine ZDG fun hw1=>?_;refine Wc.le ?_ (Le.kn hall);refine zy ?_;refine ZAE rfl rfl rfl rfl (ZAW rfl rfl) (fun h6=>?_) (fun h6=>?_)
 ·have hk':k<l.length:=by simpa using h6
  have hdr:l.drop k=l[k]::l.drop (k+1):=List.drop_eq_getElem_cons hk';have htk:l.take (k+1)=l.take k++[l[k]]:=by rw[List.take_add_one,List.getElem?_eq_getElem hk'];rfl
  rw[hdr,goNm] at hgo;have hxm:=List.getElem_mem hk';obtain⟨b,o,oa,rfl,row,hrow,hma⟩:=hI k hk';have hxN:=hN _ hxm;generalize hmk:l[k]=x at *;have hma0:=hma;obtain⟨ap,cp,rfl,hpl⟩:=hma;have hrow1:=hC.ext.row hrow;refine zy ?_;refine ZAI rfl rfl rfl rfl (A_ix Und.h Tsz.h rfl rfl) ?_;refine zy ?_;refine ZCD rfl rfl Zr.h fun h2 hE2 hW2 hg2 hn2=>?_;refine zy ?_;refine ZBF rfl Tsz.h rfl rfl hg2 rfl rfl rfl fun h3 hU3=>?_;have hbmn:bm≠h1.nx:=by
   obtain⟨l,⟨es,c,e1,_⟩,_⟩:=hC.mp;have:=hw1 _ _ e1;omega
  have hC3:=(hC.grow hE2).upd hU3 hw hC.ext.2.1 hbmn;have hg7:=hU3.at';generalize h1.nx=b7 at *;clear hU3;refine zy ?_;refine ZAS rfl rfl rfl rfl rfl hb1 rfl rfl (hp1 h3 hC3.ext _ _ hxm (hma0.ext hC3.ext)) fun h4 hE4=>?_;replace hC3:=hC3.grow hE4;replace hg7:=hE4.get hg7;refine zy ?_;refine ZAn rfl rfl rfl rfl rfl Bod.h rfl rfl (ZBQ _ _ hxN) (fun h8 h9 hE9=>?_) (fun h8 h9 hE9=>?_);rotate_left
  ·refine zy ?_
   refine ZAC (ZAD rfl ⟨?_,(hC3.grow hE9).ext⟩);rw[ZBW] at h8;have hne:ZAe (ScP.name x) ((l.take k).map ScP.name)=6:=by simp[ZAe,h8]
   rw[show ZAe (ScP.name x) ((l.take k).map ScP.name)=6 from hne,if_pos (by decide)] at hgo;rw[hgo];rfl
  rw[ZBW] at h8;replace hC3:=hC3.grow hE9;replace hg7:=hE9.get hg7;obtain⟨l',mp1,mp2⟩:=hC3.mp;refine zy ?_;refine ZAI rfl rfl rfl rfl (ZGV strK Und.h Zr.h rfl mp1 (k:=ScP.name x) rfl) ?_;rw[mp2]
  by_cases hin:ScP.name x∈(l.take k).map ScP.name
  ·rw[if_pos hin]
   refine zy ?_;refine ZAC (ZAD rfl ⟨?_,hC3.ext⟩);have hne:ZAe (ScP.name x) ((l.take k).map ScP.name)=5:=by rw[ZAe,if_neg (by rw[h8];simp),if_pos hin]
   rw[show ZAe (ScP.name x) ((l.take k).map ScP.name)=5 from hne,if_pos (by decide)] at hgo;rw[hgo];rfl
  rw[if_neg hin];have hne:ZAe (ScP.name x) ((l.take k).map ScP.name)=0:=by rw[ZAe,if_neg (by rw[h8];simp),if_neg hin]
  rw[show ZAe (ScP.name x) ((l.take k).map ScP.name)=0 from hne,if_neg (by decide)] at hgo;refine zy ?_;refine ZAS rfl rfl rfl rfl rfl hb2 rfl rfl (hp2 _ hC3.ext _ _ hxm (hma0.ext hC3.ext)) fun h12 hE12=>?_;refine zy ?_;refine ZAE rfl rfl rfl rfl (ZAb rfl rfl) (fun h10=>?_) (fun h10=>?_)
  ·refine zy ?_
   refine ZAC (ZAD rfl ⟨?_,(hC3.grow hE12).ext⟩);rw[if_pos h10] at hgo;rw[hgo];rfl
  rw[if_neg h10] at hgo;replace hC3:=hC3.grow hE12;obtain⟨l',mp1,mp2⟩:=hC3.mp;refine zy ?_;refine ZC5 strK rfl Und.h rfl mp1 (k:=ScP.name x) rfl rfl fun h13 o13 hU13 hM13=>?_;refine zy ?_;refine⟨k+1,?_,rfl,hk',?_,?_,rfl,rfl,rfl,rfl,rfl,rfl,trivial⟩
  ·show l.length-(k+1)<l.length-k;omega
  ·rw[htk,List.map_append]
   refine⟨hU13.ext hC3.ext hw hC3.lt,⟨_,hM13,?_⟩,hC3.lt⟩;exact fun x=>ZLu mp2 x
  ·rw[htk,List.map_append];exact hgo
 have hgN:goNm ScP.name wrong 0 [] l=none:=by
  have hk2:k=l.length:=by omega
  rw[hgo,hk2,List.drop_length];rfl
 refine zy ?_;exact ZAC (ZAD rfl ⟨by rw[hgN];rfl,hC.ext⟩)
theorem ZN2 {a:Option Addr}{cap:Nat}{l:List ScPk}{wrong:ScPk->Int}{h:Heap}{g1 g2:FuncId}{f2:List Value}(hI:ZAN 5 ZEV h a l)(hlen:Len l)(hN:∀x∈l,Len (ScPk.name x))(hb1:ZAm Tryz.prog g1=true)(hb2:ZAm Tryz.prog g2=true)
  (hp1:(∀h1,Ext h h1->∀row x,x∈l->ZEV h1 row x->Sv Tryz.prog g1 ([]++([.agg ⟨row⟩]++[])) h1 (RetP fun v h'=>v=str (ScPk.name x)/\Ext h1 h')))
  (hp2:(∀h1,Ext h h1->∀row x,x∈l->ZEV h1 row x->Sv Tryz.prog g2 (f2++([.agg ⟨row⟩]++[])) h1 (RetP fun v h'=>v=i64 (wrong x)/\Ext h1 h'))) :
  Sv Tryz.prog 68 [.slice a l.length cap,.func (.func g1) ⟨[]⟩ ⟨[]⟩,.func (.func g2) ⟨f2⟩ ⟨[]⟩] h (RetP fun v h'=>v=tupO (goNm ScPk.name wrong 0 [] l)/\Ext h h'):=by
 refine ZAy fun hw=>?_;refine ZAH Tryz.func68 rfl (by rw[Tryz.ntmps68];rfl) ?_;show Wc Tryz.prog ⟨68,44,none⟩ _ _ _ _ _;refine zy ?_;refine ZFL rfl rfl fun h6 hE6 hW6 hg6 hn6=>?_;have hI0:NmI h h6 h.nx []:=⟨hE6,⟨[],ZDM.new _ hg6,fun _=>rfl⟩,Nat.le_refl _⟩;generalize hbm:h.nx=bm at *;refine zy ?_
 refine ZAT (fun (k:Nat) m ds h'=>ds=[]/\k<=l.length/\NmI h h' bm ((l.take k).map ScPk.name)/\goNm ScPk.name wrong 0 [] l=goNm ScPk.name wrong k ((l.take k).map ScPk.name) (l.drop k) ∧
   AllK m [(1,.func (.func g1) ⟨[]⟩ ⟨[]⟩),(2,.func (.func g2) ⟨f2⟩ ⟨[]⟩),(8,.map (some bm)),(14,.slice a l.length cap),(15,i64 l.length),(16,i64 k)]) (fun k=>l.length-k) 0 ?_ ?_
 ·exact⟨rfl,Nat.zero_le _,hI0,rfl,rfl,rfl,rfl,rfl,rfl,rfl,trivial⟩
 clear hI0 hg6 hE6 hW6 hn6;clear h6;rintro k m ds h1 ⟨rfl,hk,hC,hgo,hall⟩;refine ZDG fun hw1=>?_;refine Wc.le ?_ (Le.kn hall);refine zy ?_;refine ZAE rfl rfl rfl rfl (ZAW rfl rfl) (fun h6=>?_) (fun h6=>?_)
 ·have hk':k<l.length:=by simpa using h6
  have hdr:l.drop k=l[k]::l.drop (k+1):=List.drop_eq_getElem_cons hk';have htk:l.take (k+1)=l.take k++[l[k]]:=by rw[List.take_add_one,List.getElem?_eq_getElem hk'];rfl
  rw[hdr,goNm] at hgo;have hxm:=List.getElem_mem hk';obtain⟨b,o,oa,rfl,row,hrow,hma⟩:=hI k hk';have hxN:=hN _ hxm;generalize hmk:l[k]=x at *;have hma0:=hma;obtain rfl:=hma;have hrow1:=hC.ext.row hrow;refine zy ?_;refine ZAI rfl rfl rfl rfl (A_ix Und.h Tsz.h rfl rfl) ?_;refine zy ?_;refine ZCD rfl rfl Zr.h fun h2 hE2 hW2 hg2 hn2=>?_;refine zy ?_;refine ZBF rfl Tsz.h rfl rfl hg2 rfl rfl rfl fun h3 hU3=>?_;have hbmn:bm≠h1.nx:=by
   obtain⟨l,⟨es,c,e1,_⟩,_⟩:=hC.mp;have:=hw1 _ _ e1;omega
  have hC3:=(hC.grow hE2).upd hU3 hw hC.ext.2.1 hbmn;have hg7:=hU3.at';generalize h1.nx=b7 at *;clear hU3;refine zy ?_;refine ZAS rfl rfl rfl rfl rfl hb1 rfl rfl (hp1 h3 hC3.ext _ _ hxm (rfl)) fun h4 hE4=>?_;replace hC3:=hC3.grow hE4;replace hg7:=hE4.get hg7;refine zy ?_;refine ZAn rfl rfl rfl rfl rfl Bod.h rfl rfl (ZBQ _ _ hxN) (fun h8 h9 hE9=>?_) (fun h8 h9 hE9=>?_);rotate_left
  ·refine zy ?_
   refine ZAC (ZAD rfl ⟨?_,(hC3.grow hE9).ext⟩);rw[ZBW] at h8;have hne:ZAe (ScPk.name x) ((l.take k).map ScPk.name)=6:=by simp[ZAe,h8]
   rw[show ZAe (ScPk.name x) ((l.take k).map ScPk.name)=6 from hne,if_pos (by decide)] at hgo;rw[hgo];rfl
  rw[ZBW] at h8;replace hC3:=hC3.grow hE9;replace hg7:=hE9.get hg7;obtain⟨l',mp1,mp2⟩:=hC3.mp;refine zy ?_;refine ZAI rfl rfl rfl rfl (ZGV strK Und.h Zr.h rfl mp1 (k:=ScPk.name x) rfl) ?_;rw[mp2]
  by_cases hin:ScPk.name x∈(l.take k).map ScPk.name
  ·rw[if_pos hin]
   refine zy ?_;refine ZAC (ZAD rfl ⟨?_,hC3.ext⟩);have hne:ZAe (ScPk.name x) ((l.take k).map ScPk.name)=5:=by rw[ZAe,if_neg (by rw[h8];simp),if_pos hin]
   rw[show ZAe (ScPk.name x) ((l.take k).map ScPk.name)=5 from hne,if_pos (by decide)] at hgo;rw[hgo];rfl
  rw[if_neg hin];have hne:ZAe (ScPk.name x) ((l.take k).map ScPk.name)=0:=by rw[ZAe,if_neg (by rw[h8];simp),if_neg hin]
  rw[show ZAe (ScPk.name x) ((l.take k).map ScPk.name)=0 from hne,if_neg (by decide)] at hgo;refine zy ?_;refine ZAS rfl rfl rfl rfl rfl hb2 rfl rfl (hp2 _ hC3.ext _ _ hxm (rfl)) fun h12 hE12=>?_;refine zy ?_;refine ZAE rfl rfl rfl rfl (ZAb rfl rfl) (fun h10=>?_) (fun h10=>?_)
  ·refine zy ?_
   refine ZAC (ZAD rfl ⟨?_,(hC3.grow hE12).ext⟩);rw[if_pos h10] at hgo;rw[hgo];rfl
  rw[if_neg h10] at hgo;replace hC3:=hC3.grow hE12;obtain⟨l',mp1,mp2⟩:=hC3.mp;refine zy ?_;refine ZC5 strK rfl Und.h rfl mp1 (k:=ScPk.name x) rfl rfl fun h13 o13 hU13 hM13=>?_;refine zy ?_;refine⟨k+1,?_,rfl,hk',?_,?_,rfl,rfl,rfl,rfl,rfl,rfl,trivial⟩
  ·show l.length-(k+1)<l.length-k;omega
  ·rw[htk,List.map_append]
   refine⟨hU13.ext hC3.ext hw hC3.lt,⟨_,hM13,?_⟩,hC3.lt⟩;exact fun x=>ZLu mp2 x
  ·rw[htk,List.map_append];exact hgo
 have hgN:goNm ScPk.name wrong 0 [] l=none:=by
  have hk2:k=l.length:=by omega
  rw[hgo,hk2,List.drop_length];rfl
 refine zy ?_;exact ZAC (ZAD rfl ⟨by rw[hgN];rfl,hC.ext⟩)
theorem ZPV {a:Option Addr}{cap:Nat}{l:List ScR}{wrong:ScR->Int}{h:Heap}{g2:FuncId}{f2:List Value}(hI:ZAN 5 ScRR h a l)(hlen:Len l)(hb2:ZAm Tryz.prog g2=true)
  (hp2:∀h1,Ext h h1->∀row x,x∈l->ScRR h1 row x->Sv Tryz.prog g2 (f2++([.agg ⟨row⟩]++[])) h1 (RetP fun v h'=>v=i64 (wrong x)/\Ext h1 h')) :
  Sv Tryz.prog 63 [.slice a l.length cap,.func (.func g2) ⟨f2⟩ ⟨[]⟩] h (RetP fun v h'=>v=tupO (goEa wrong 0 l)/\Ext h h'):=by
 refine ZAy fun hw=>?_;refine ZAH Tryz.func63 rfl (by rw[Tryz.ntmps63];rfl) ?_;show Wc Tryz.prog ⟨63,24,none⟩ _ _ _ _ _;refine zy ?_
 refine ZAT (fun (k:Nat) m ds h'=>ds=[]/\k<=l.length/\Ext h h'/\goEa wrong 0 l=goEa wrong k (l.drop k) ∧
   AllK m [(1,.func (.func g2) ⟨f2⟩ ⟨[]⟩),(9,.slice a l.length cap),(10,i64 l.length),(11,i64 k)]) (fun k=>l.length-k) 0 ?_ ?_
 ·exact⟨rfl,Nat.zero_le _,Ext.refl _,rfl,rfl,rfl,rfl,rfl,trivial⟩
 rintro k m ds h1 ⟨rfl,hk,hC,hgo,hall⟩;refine Wc.le ?_ (Le.kn hall);refine zy ?_;refine ZAE rfl rfl rfl rfl (ZAW rfl rfl) (fun h6=>?_) (fun h6=>?_)
 ·have hk':k<l.length:=by simpa using h6
  have hdr:l.drop k=l[k]::l.drop (k+1):=List.drop_eq_getElem_cons hk';rw[hdr,goEa] at hgo;have hxm:=List.getElem_mem hk';obtain⟨b,o,oa,rfl,row,hrow,hma⟩:=hI k hk';generalize hmk:l[k]=x at *;obtain rfl:=hma;have hrow1:=hC.row hrow;refine zy ?_;refine ZAI rfl rfl rfl rfl (A_ix Und.h Tsz.h rfl rfl) ?_;refine zy ?_;refine ZCD rfl rfl Zr.h fun h2 hE2 hW2 hg2 hn2=>?_;refine zy ?_;refine ZBF rfl Tsz.h rfl rfl hg2 rfl rfl rfl fun h3 hU3=>?_;have hC3:=hU3.ext (hC.trans hE2) hw hC.2.1;have hg7:=hU3.at';generalize h1.nx=b7 at *;clear hU3;refine zy ?_;refine ZAS rfl rfl rfl rfl rfl hb2 rfl rfl (hp2 _ hC3 _ _ hxm (rfl)) fun h12 hE12=>?_
  refine zy ?_;refine ZAE rfl rfl rfl rfl (ZAb rfl rfl) (fun h10=>?_) (fun h10=>?_)
  ·refine zy ?_
   refine ZAC (ZAD rfl ⟨?_,hC3.trans hE12⟩);rw[if_pos h10] at hgo;rw[hgo];rfl
  rw[if_neg h10] at hgo;refine zy ?_;refine⟨k+1,?_,rfl,hk',hC3.trans hE12,hgo,rfl,rfl,rfl,rfl,trivial⟩
  show l.length-(k+1)<l.length-k;omega
 have hgN:goEa wrong 0 l=none:=by
  have hk2:k=l.length:=by omega
  rw[hgo,hk2,List.drop_length];rfl
 refine zy ?_;exact ZAC (ZAD rfl ⟨by rw[hgN];rfl,hC⟩)
theorem ZQU {a:Option Addr}{cap:Nat}{l:List ScK}{wrong:ScK->Int}{h:Heap}{g2:FuncId}{f2:List Value}(hI:ZAN 4 ScKR h a l)(hlen:Len l)(hb2:ZAm Tryz.prog g2=true)
  (hp2:∀h1,Ext h h1->∀row x,x∈l->ScKR h1 row x->Sv Tryz.prog g2 (f2++([.agg ⟨row⟩]++[])) h1 (RetP fun v h'=>v=i64 (wrong x)/\Ext h1 h')) :
  Sv Tryz.prog 71 [.slice a l.length cap,.func (.func g2) ⟨f2⟩ ⟨[]⟩] h (RetP fun v h'=>v=tupO (goEa wrong 0 l)/\Ext h h'):=by
 refine ZAy fun hw=>?_;refine ZAH Tryz.func71 rfl (by rw[Tryz.ntmps71];rfl) ?_;show Wc Tryz.prog ⟨71,24,none⟩ _ _ _ _ _;refine zy ?_
 refine ZAT (fun (k:Nat) m ds h'=>ds=[]/\k<=l.length/\Ext h h'/\goEa wrong 0 l=goEa wrong k (l.drop k) ∧
   AllK m [(1,.func (.func g2) ⟨f2⟩ ⟨[]⟩),(9,.slice a l.length cap),(10,i64 l.length),(11,i64 k)]) (fun k=>l.length-k) 0 ?_ ?_
 ·exact⟨rfl,Nat.zero_le _,Ext.refl _,rfl,rfl,rfl,rfl,rfl,trivial⟩
 rintro k m ds h1 ⟨rfl,hk,hC,hgo,hall⟩;refine Wc.le ?_ (Le.kn hall);refine zy ?_;refine ZAE rfl rfl rfl rfl (ZAW rfl rfl) (fun h6=>?_) (fun h6=>?_)
 ·have hk':k<l.length:=by simpa using h6
  have hdr:l.drop k=l[k]::l.drop (k+1):=List.drop_eq_getElem_cons hk';rw[hdr,goEa] at hgo;have hxm:=List.getElem_mem hk';obtain⟨b,o,oa,rfl,row,hrow,hma⟩:=hI k hk';generalize hmk:l[k]=x at *;obtain rfl:=hma;have hrow1:=hC.row hrow;refine zy ?_;refine ZAI rfl rfl rfl rfl (A_ix Und.h Tsz.h rfl rfl) ?_;refine zy ?_;refine ZCD rfl rfl Zr.h fun h2 hE2 hW2 hg2 hn2=>?_;refine zy ?_;refine ZBF rfl Tsz.h rfl rfl hg2 rfl rfl rfl fun h3 hU3=>?_;have hC3:=hU3.ext (hC.trans hE2) hw hC.2.1;have hg7:=hU3.at';generalize h1.nx=b7 at *;clear hU3;refine zy ?_;refine ZAS rfl rfl rfl rfl rfl hb2 rfl rfl (hp2 _ hC3 _ _ hxm (rfl)) fun h12 hE12=>?_
  refine zy ?_;refine ZAE rfl rfl rfl rfl (ZAb rfl rfl) (fun h10=>?_) (fun h10=>?_)
  ·refine zy ?_
   refine ZAC (ZAD rfl ⟨?_,hC3.trans hE12⟩);rw[if_pos h10] at hgo;rw[hgo];rfl
  rw[if_neg h10] at hgo;refine zy ?_;refine⟨k+1,?_,rfl,hk',hC3.trans hE12,hgo,rfl,rfl,rfl,rfl,trivial⟩
  show l.length-(k+1)<l.length-k;omega
 have hgN:goEa wrong 0 l=none:=by
  have hk2:k=l.length:=by omega
  rw[hgo,hk2,List.drop_length];rfl
 refine zy ?_;exact ZAC (ZAD rfl ⟨by rw[hgN];rfl,hC⟩)
theorem ZP0 {a:Option Addr}{cap:Nat}{l:List ScL}{wrong:ScL->Int}{h:Heap}{g2:FuncId}{f2:List Value}(hI:ZAN 4 ScLR h a l)(hlen:Len l)(hb2:ZAm Tryz.prog g2=true)
  (hp2:∀h1,Ext h h1->∀row x,x∈l->ScLR h1 row x->Sv Tryz.prog g2 (f2++([.agg ⟨row⟩]++[])) h1 (RetP fun v h'=>v=i64 (wrong x)/\Ext h1 h')) :
  Sv Tryz.prog 73 [.slice a l.length cap,.func (.func g2) ⟨f2⟩ ⟨[]⟩] h (RetP fun v h'=>v=tupO (goEa wrong 0 l)/\Ext h h'):=by
 refine ZAy fun hw=>?_;refine ZAH Tryz.func73 rfl (by rw[Tryz.ntmps73];rfl) ?_;show Wc Tryz.prog ⟨73,24,none⟩ _ _ _ _ _;refine zy ?_
 refine ZAT (fun (k:Nat) m ds h'=>ds=[]/\k<=l.length/\Ext h h'/\goEa wrong 0 l=goEa wrong k (l.drop k) ∧
   AllK m [(1,.func (.func g2) ⟨f2⟩ ⟨[]⟩),(9,.slice a l.length cap),(10,i64 l.length),(11,i64 k)]) (fun k=>l.length-k) 0 ?_ ?_
 ·exact⟨rfl,Nat.zero_le _,Ext.refl _,rfl,rfl,rfl,rfl,rfl,trivial⟩
 rintro k m ds h1 ⟨rfl,hk,hC,hgo,hall⟩;refine Wc.le ?_ (Le.kn hall);refine zy ?_;refine ZAE rfl rfl rfl rfl (ZAW rfl rfl) (fun h6=>?_) (fun h6=>?_)
 ·have hk':k<l.length:=by simpa using h6
  have hdr:l.drop k=l[k]::l.drop (k+1):=List.drop_eq_getElem_cons hk';rw[hdr,goEa] at hgo;have hxm:=List.getElem_mem hk';obtain⟨b,o,oa,rfl,row,hrow,hma⟩:=hI k hk';generalize hmk:l[k]=x at *;obtain rfl:=hma;have hrow1:=hC.row hrow;refine zy ?_;refine ZAI rfl rfl rfl rfl (A_ix Und.h Tsz.h rfl rfl) ?_;refine zy ?_;refine ZCD rfl rfl Zr.h fun h2 hE2 hW2 hg2 hn2=>?_;refine zy ?_;refine ZBF rfl Tsz.h rfl rfl hg2 rfl rfl rfl fun h3 hU3=>?_;have hC3:=hU3.ext (hC.trans hE2) hw hC.2.1;have hg7:=hU3.at';generalize h1.nx=b7 at *;clear hU3;refine zy ?_;refine ZAS rfl rfl rfl rfl rfl hb2 rfl rfl (hp2 _ hC3 _ _ hxm (rfl)) fun h12 hE12=>?_
  refine zy ?_;refine ZAE rfl rfl rfl rfl (ZAb rfl rfl) (fun h10=>?_) (fun h10=>?_)
  ·refine zy ?_
   refine ZAC (ZAD rfl ⟨?_,hC3.trans hE12⟩);rw[if_pos h10] at hgo;rw[hgo];rfl
  rw[if_neg h10] at hgo;refine zy ?_;refine⟨k+1,?_,rfl,hk',hC3.trans hE12,hgo,rfl,rfl,rfl,rfl,trivial⟩
  show l.length-(k+1)<l.length-k;omega
 have hgN:goEa wrong 0 l=none:=by
  have hk2:k=l.length:=by omega
  rw[hgo,hk2,List.drop_length];rfl
 refine zy ?_;exact ZAC (ZAD rfl ⟨by rw[hgN];rfl,hC⟩)
end Go.Dw
namespace Go.Dw
open Go Go.Dx Go.Proofs Go.Sort Go.RowKit Go.Lib
set_option maxRecDepth 100000
section
variable {α:Type} [Inhabited α]{enc:α->Value}{w:World}{blk n:Nat}{os:Array Obj}{c:Array Value}{el:TypeId}{d:Array α}
theorem ZIu (hb:w.heap[blk]?=some (.cells c el (0,0))):w.heap.size<=(grow (putRow enc (Sort.ahead w n) blk 0 d) os).heap.size/\∀k,k<w.heap.size->(grow (putRow enc (Sort.ahead w n) blk 0 d) os).heap[k]?=(w.heap.setIfInBounds blk (.cells (putCells enc 0 d c) el (0,0)))[k]?:=by
 refine⟨by simp,fun k hk=>?_⟩;rw[heap_grow_old _ _ (by simpa using hk)];obtain⟨h1,h2⟩:=Array.getElem?_eq_some_iff.1 hb;rw[Array.getElem?_setIfInBounds]
 by_cases e:blk=k
 ·subst e
  rw[if_pos rfl,if_pos hk];simp[putRow,mapBlock,Sort.ahead,Array.getElem?_modify,onCells,hb]
 ·rw[if_neg e]
  simp[putRow,mapBlock,Sort.ahead,Array.getElem?_modify,e]
theorem ZFU:(putCells enc 0 d c).size=c.size:=by simp[putCells]
theorem ZE2 (h:d.size<=c.size):(putCells enc 0 d c).toList.take d.size=d.toList.map enc:=by
 apply List.ext_getElem?;intro j
 by_cases hj:j<d.size
 ·rw[List.getElem?_take_of_lt hj,Array.getElem?_toList]
  simp[putCells,hj,show j<c.size by omega,getElem!_pos d j hj]
 ·rw[List.getElem?_take_eq_none (by omega),List.getElem?_eq_none (by simp;omega)]
theorem ZMA (hb:w.heap[blk]?=some (.cells c el (0,0)))(ht:c.toList.take d.size=d.toList.map enc):Holds enc w blk 0 d:=by
 intro j hj;refine⟨?_,by simp[World.frozen?,hb]⟩;have h1:(c.toList.take d.size)[j]?=(d.toList.map enc)[j]?:=by rw[ht]
 rw[List.getElem?_take_of_lt hj] at h1;simp only[World.cell?,hb,Nat.zero_add];simp only[Option.isSome_none,Bool.false_eq_true,if_false];rw[<-Array.getElem?_toList,h1];simp[hj,getElem!_pos d j hj]
end
def ZAz (x:ScL):List Value:=[i64 x.print,i64 x.venue,i64 x.days.lo,i64 x.days.hi]
def ZEA:Type:={ x:ScL // 0<=x.days.lo/\x.days.lo<=80000 }
instance:Inhabited ZEA:=⟨⟨⟨0,0,⟨0,0⟩⟩,by decide⟩⟩
def encN (x:ZEA):List Value:=ZAz x.1
def cfN (x y:ZEA):Int:=x.1.days.lo-y.1.days.lo
theorem ZGT (x:ZEA):(encN x).length=4:=rfl
theorem ZRE:SWO (ltOf cfN):=by
 refine⟨fun x=>?_,fun x y z h1 h2=>?_,fun x y z h1 h2=>?_⟩
 ·exact decide_eq_false (by unfold cfN;omega)
 ·have k1:x.1.days.lo-y.1.days.lo<0:=of_decide_eq_true h1
  have k2:y.1.days.lo-z.1.days.lo<0:=of_decide_eq_true h2;exact decide_eq_true (show x.1.days.lo-z.1.days.lo<0 by omega)
 ·have k1:¬x.1.days.lo-y.1.days.lo<0:=of_decide_eq_false h1
  have k2:¬y.1.days.lo-z.1.days.lo<0:=of_decide_eq_false h2;exact decide_eq_false (show ¬x.1.days.lo-z.1.days.lo<0 by omega)
theorem ZHt (d:Array ZEA):(flatK encN 4 d).toList=d.toList.flatMap encN:=by
 have hlen:∀l:List ZEA,(l.flatMap encN).length=l.length*4:=by
  intro l
  induction l with
  | nil=>rfl
  | cons x l ih=>rw[List.flatMap_cons,List.length_append,ih,ZGT,List.length_cons];omega
 apply List.ext_getElem?;intro t
 by_cases ht:t<d.size*4
 ·have hi:t / 4<d.toList.length:=by rw[Array.length_toList];omega
  have h1:=ZFD (f:=encN) (k:=4) (P:=d.toList) hi fun _ _=>rfl;rw[ZKg (by rw[hlen,Array.length_toList];omega)] at h1;have h2:((List.drop (t / 4*4) (d.toList.flatMap encN)).take 4)[t % 4]?=(encN d.toList[t / 4])[t % 4]?:=congrArg (fun l:List Value=>l[t % 4]?) (Option.some.inj h1);rw[List.getElem?_take_of_lt (by omega),List.getElem?_drop,show t / 4*4+t % 4=t by omega] at h2;rw[h2,Array.getElem?_toList,Array.getElem?_eq_getElem (by simpa using ht)];have h3:=get_flatK encN 4 d t ht;rw[getElem!_pos _ t (by simpa using ht)] at h3;rw[h3,getElem!_pos d (t / 4) (by omega),Array.getElem_toList,List.getElem?_eq_getElem (by rw[ZGT];omega),getElem!_pos _ _ (by rw[ZGT];omega)]
 ·rw[List.getElem?_eq_none (by simp;omega),List.getElem?_eq_none (by rw[hlen,Array.length_toList];omega)]
theorem ZBg (P:List ScL):(P.flatMap ZAz).length=P.length*4:=by
 induction P with
 | nil=>rfl
 | cons x l ih=>rw[List.flatMap_cons,List.length_append,ih,List.length_cons];show 4+_=_;omega
theorem ZEr:∀P:List ScL,ZBq (P.flatMap ZAz)=true
 | []=>rfl
 | p::P=>by
  rw[List.flatMap_cons]
  show ZBq (i64 p.print::i64 p.venue::i64 p.days.lo::i64 p.days.hi::P.flatMap ZAz)=true
  simp only[ZBq,flat,Bool.true_and];exact ZEr P
set_option maxHeartbeats 1000000 in
theorem ZSd (a b:Int)(u1 u2 u3 v1 v2 v3:Value)(hw:IntKind.i64.wrap (a-b)=a-b)(W:World):Calls Tryz.prog 175 #[.agg #[u1,u2,.int .i64 a,u3],.agg #[v1,v2,.int .i64 b,v3]] W fun e w'=>e=.returned (.int .i64 (a-b))/\∃q os',w'=grow (W.drewN q) os':=by
 go_enter Tryz.func175,Tryz.ntmps175
 go_wp2
 go_ret
 exact⟨rfl,0,_,by rw[alloc_eq_grow,alloc_eq_grow,grow_grow];rfl⟩
theorem byLo (x y:ZEA)(W:World):Calls Tryz.prog 175 #[.agg (encN x).toArray,.agg (encN y).toArray] W fun e w'=>e=.returned (.int .i64 (cfN x y))/\∃q os',w'=grow (W.drewN q) os' :=
 ZSd x.1.days.lo y.1.days.lo _ _ _ _ _ _ (IntWalk.i64_in _ (by have:=x.2;have:=y.2;omega)) W
theorem ZH2:∀{P:List ScL},(∀p∈P,0<=p.days.lo/\p.days.lo<=80000)->∃Z:List ZEA,Z.map (fun x:ZEA=>x.1)=P/\Z.length=P.length/\Z.flatMap encN=P.flatMap ZAz
 | [],_=>⟨[],rfl,rfl,rfl⟩
 | p::P,h=>by
  obtain⟨Z,e,e2,e3⟩:=ZH2 (P:=P) fun x hx=>h x (List.mem_cons_of_mem _ hx);exact⟨(⟨p,h p List.mem_cons_self⟩:ZEA)::Z,congrArg (List.cons p) e,congrArg Nat.succ e2,by show ZAz p++Z.flatMap encN=ZAz p++P.flatMap ZAz;rw[e3]⟩
theorem ZJ4 {h0 h:Heap}{v:Value}{P:List ScL}(hF:ZAG h0 h v 51 4 (P.flatMap ZAz) P.length)(hn:P.length<1000000)(hrl:∀p∈P,0<=p.days.lo/\p.days.lo<=80000) :
  Sv Tryz.prog 174 [v,.func (.func 175) ⟨[]⟩ ⟨[]⟩] h (RetP fun r h'=>r=.tuple ⟨[]⟩/\∃P':List ScL,P'.Perm P/\P'.Pairwise (fun a b=>a.days.lo<=b.days.lo)/\ZAG h0 h' v 51 4 (P'.flatMap ZAz) P.length/\Exb (fun c=>ZBN v=some c) h h'):=by
 refine⟨fun ι w args' hr hv=>?_⟩;obtain⟨l',rfl,hv⟩:=hv.arr
 cases hv with
 | cons hv1 hv2 =>
  cases hv2 with
  | cons hv3 hv4 =>
   cases hv4;have e3:=hv3.flat_eq rfl;subst e3
   rcases hF.lies hr hv1 (by decide) with ⟨rfl,rfl,hz,hn0⟩|⟨b,bi,op,cap,c,hb,hg,hi,rfl,hc,hle,hV,hl,hnew⟩
   ·have:P=[]:=List.eq_nil_of_length_eq_zero hn0
    subst this;refine (AnyF.slices_SortFunc_none ZMO none 0 _ w).mono ?_;rintro e w' ⟨rfl,rfl⟩;exact⟨.ret (.tuple ⟨[]⟩) h,⟨rfl,[],.refl _,.nil,ZAG.nil _ _ _ _,Exb.refl _ _⟩,ZIQ hr (VR.of_flat ι rfl) ⟨Nat.le_refl _,fun _ _=>rfl,rfl,rfl⟩⟩
   ·obtain⟨Z,e1,hZl,e2⟩:=ZH2 hrl
    have hcz:=hV.flat_eq (ZEr P);rw[ZBg] at hle hcz;have hD:(Z.toArray:Array ZEA).size=P.length:=by simp[hZl]
    have hfl:(flatK encN 4 Z.toArray).toList=c.toList.take (P.length*4):=by rw[ZHt,hcz];exact e2
    have hH:HoldsK encN 4 w bi.blk 0 Z.toArray:=ZMA (enc:=id) hc (by rw[size_flatK,hD,hfl,List.map_id]);obtain⟨hbs,-⟩:=Array.getElem?_eq_some_iff.1 hc
    have hK:=AnyQ.slices_SortFunc ZMO 4 Tryz.isAgg51 Tryz.sizeOf51 encN ZGT (fun x v hv=>by
     simp only[encN,ZAz,List.mem_cons,List.not_mem_nil,or_false] at hv
     rcases hv with rfl|rfl|rfl|rfl <;> rfl) cfN ZRE 175 #[] bi.blk 0 cap Z.toArray w (enters_of Tryz.func175 (by kernel_rfl) rfl) (fun _ _ _ _ x y=>byLo x y _) hH hbs (by omega)
    rw[hD] at hK;refine hK.mono ?_;rintro e w' ⟨rfl,d',k,os,hp,hs,rfl⟩;obtain⟨hp1,-,hp2⟩:=hp;rw[hD] at hp1;have hp3:d'.toList.Perm Z:=by
     have x1:(d'.extract 0 P.length).toList=d'.toList:=by rw[Array.toList_extract];simp;rw[List.take_of_length_le (by rw[Array.length_toList];omega)]
     have x2:(Z.toArray.extract 0 P.length).toList=Z:=by rw[Array.toList_extract];simp;rw[List.take_of_length_le (by omega)]
     rw[x1,x2] at hp2;exact hp2
    have hPp:(d'.toList.map (fun x:ZEA=>x.1)).Perm P:=by rw[<-e1];exact hp3.map _
    have hPl:(d'.toList.map (fun x:ZEA=>x.1)).length=P.length:=hPp.length_eq;have e4:d'.toList.flatMap encN=(d'.toList.map (fun x:ZEA=>x.1)).flatMap ZAz:=by rw[List.flatMap_map];rfl
    have hfs:(flatK encN 4 d').size=P.length*4:=by rw[size_flatK,hp1]
    have hP:=ZJQ (h:=h) (vs2:=(d'.toList.map (fun x:ZEA=>x.1)).flatMap ZAz) (c2:=putCells id 0 (flatK encN 4 d') c) (r:=.tuple ⟨[]⟩) (r':=.tuple ⟨[]⟩) hr hg hi hc ZFU (by rw[ZBg,ZBg,hPl]) (by
     have:=ZE2 (enc:=id) (d:=flatK encN 4 d') (c:=c) (by rw[hfs];exact hle);rw[hfs,List.map_id,ZHt,e4] at this;rw[ZBg,hPl,this];exact VRL.of_flat ι (ZEr _)) (VR.of_flat ι rfl) (ZIu (enc:=id) (d:=flatK encN 4 d') (n:=k) (os:=os) hc).1 (ZIu hc).2 rfl rfl
    refine⟨.ret (.tuple ⟨[]⟩) (h.set b (.cells ((d'.toList.map (fun x:ZEA=>x.1)).flatMap ZAz) 51 op)),⟨rfl,d'.toList.map (fun x:ZEA=>x.1),hPp,?_,hnew _ _ op (by rw[ZBg,ZBg,hPl]) (Upd.mk' h b _).at',?_⟩,hP⟩
    ·rw[List.pairwise_map,List.pairwise_iff_getElem]
     intro i j hi hj hij;rw[Array.length_toList] at hi hj;have h5:¬cfN d'[j]! d'[i]!<0:=of_decide_eq_false (hs i j (Nat.zero_le _) hij (by omega));rw[getElem!_pos d' i hi,getElem!_pos d' j hj] at h5;unfold cfN at h5;simp only[Array.getElem_toList];omega
    ·refine (Exb.ofUpd (Upd.mk' h b _)).mono fun x hx=>by rw[hx];exact hb
end Go.Dw
namespace Go.Dw
open Go Go.Dx Go.Proofs
set_option maxRecDepth 100000
theorem ZEK (s:Sp)(lo hi:Int)(h:Heap):Sv Tryz.prog 135 [.agg ⟨[i64 s.lo,i64 s.hi]⟩,i64 lo,i64 hi] h (RetP fun v h'=>v=i64 (oddS s lo hi)/\Ext h h'):=by
 refine ZAy fun hw=>?_;refine ZAH Tryz.func135 rfl (by rw[Tryz.ntmps135];rfl) ?_;show Wc Tryz.prog ⟨135,26,none⟩ _ _ _ _ _;refine zy ?_;refine ZAa rfl rfl rfl fun h1 hE1 hW1 hg1 hn1=>?_;generalize h.nx=b1 at *;refine zy ?_;refine ZAP rfl rfl rfl rfl rfl Bod.h rfl rfl (ZA9 _ _ _ _) (fun h2=>?_) (fun h2=>?_)
 ·refine zy ?_
  exact ZAC (ZAD rfl ⟨by rw[oddS,if_pos (.inl (of_decide_eq_true h2))];rfl,hE1⟩)
 refine zy ?_;refine ZAP rfl rfl rfl rfl rfl Bod.h rfl rfl (ZA9 _ _ _ _) (fun h3=>?_) (fun h3=>?_)
 ·refine zy ?_
  exact ZAC (ZAD rfl ⟨by rw[oddS,if_pos (.inr (of_decide_eq_true h3))];rfl,hE1⟩)
 have hn:¬((s.lo<lo\/hi<s.lo)\/(s.hi<lo\/hi<s.hi)):=fun x=>x.elim (of_decide_eq_false h2) (of_decide_eq_false h3);refine zy ?_;refine ZAE rfl rfl rfl rfl (ZB0 rfl rfl) (fun h4=>?_) (fun h4=>?_)
 ·refine zy ?_
  exact ZAC (ZAD rfl ⟨by rw[oddS,if_neg hn,if_pos h4];rfl,hE1⟩)
 refine zy ?_;exact ZAC (ZAD rfl ⟨by rw[oddS,if_neg hn,if_neg h4];rfl,hE1⟩)
theorem ZDc {tc:List Value}{t:ScT}{h:Heap}(ht:ZBX h tc t)(hL:Len t.lands)(n:Int):Sv Tryz.prog 134 [.agg ⟨tc⟩,i64 n] h (RetP fun v h'=>v=.bool (decide (ZCa t n))/\Ext h h'):=by
 obtain⟨al,cl,at',ct,a1,c1,a2,c2,a3,c3,a4,c4,a5,c5,a6,c6,rfl,-⟩:=ht;refine ZAy fun hw=>?_;refine ZAH Tryz.func134 rfl (by rw[Tryz.ntmps134];rfl) ?_;show Wc Tryz.prog ⟨134,12,none⟩ _ _ _ _ _;refine zy ?_;refine ZAa rfl rfl rfl fun h1 hE1 hW1 hg1 hn1=>?_;generalize h.nx=b1 at *;refine zy ?_;refine ZA6 rfl rfl rfl rfl rfl Bod.h rfl rfl (ZA9 _ _ _ _) ?_;refine zy ?_;exact ZAC (ZAD rfl ⟨rfl,hE1⟩)
theorem ZM3 {tc rc:List Value}{t:ScT}{v:ScV}{h:Heap}(ht:ZBX h tc t)(hT:t.Fit)(hm:ScVR h rc v):Sv Tryz.prog 62 [.agg ⟨tc⟩,.agg ⟨rc⟩] h (RetP fun r h'=>r=i64 (ZAt t v)/\Ext h h'):=by
 have ht0:=ht;have hL:=hT.lands;obtain⟨al,cl,at',ct,a1,c1,a2,c2,a3,c3,a4,c4,a5,c5,a6,c6,rfl,-⟩:=ht;refine ZAy fun hw=>?_;refine ZAH Tryz.func62 rfl (by rw[Tryz.ntmps62];rfl) ?_;show Wc Tryz.prog ⟨62,32,none⟩ _ _ _ _ _;obtain rfl:=hm;refine zy ?_;refine ZAa rfl rfl rfl fun h1 hE1 hW1 hg1 hn1=>?_;refine ZAa rfl rfl rfl fun h2 hE2 hW2 hg2 hn2=>?_;replace hg1:=hE2.get hg1;have hE:=hE1.trans hE2;generalize h.nx=b1 at *;generalize h1.nx=b2 at *;refine zy ?_;refine ZAn rfl rfl rfl rfl rfl Bod.h rfl rfl (ZDc (ht0.ext hE) hL _) (fun h3 h4 hE4=>?_) (fun h3 h4 hE4=>?_)
 ·refine zy ?_
  exact ZAC (ZAD rfl ⟨by rw[ZAt,if_pos (of_decide_eq_true h3)];rfl,hE.trans hE4⟩)
 have hA:=of_decide_eq_false h3;replace hg1:=hE4.get hg1;replace hg2:=hE4.get hg2;replace hE:=hE.trans hE4;refine zy ?_;refine ZAP rfl rfl rfl rfl rfl Bod.h rfl rfl (ZA9 _ _ _ _) (fun h5=>?_) (fun h5=>?_)
 ·refine zy ?_
  exact ZAC (ZAD rfl ⟨by rw[ZAt,if_neg hA,if_pos (.inl (of_decide_eq_true h5))];rfl,hE⟩)
 refine zy ?_;refine ZAP rfl rfl rfl rfl rfl Bod.h rfl rfl (ZA9 _ _ _ _) (fun h6=>?_) (fun h6=>?_)
 ·refine zy ?_
  exact ZAC (ZAD rfl ⟨by rw[ZAt,if_neg hA,if_pos (.inr (.inl (of_decide_eq_true h6)))];rfl,hE⟩)
 refine zy ?_;refine ZAP rfl rfl rfl rfl rfl Bod.h rfl rfl (ZA9 _ _ _ _) (fun h7=>?_) (fun h7=>?_)
 ·refine zy ?_
  exact ZAC (ZAD rfl ⟨by rw[ZAt,if_neg hA,if_pos (.inr (.inr (.inl (of_decide_eq_true h7))))];rfl,hE⟩)
 refine zy ?_;refine ZAP rfl rfl rfl rfl rfl Bod.h rfl rfl (ZA9 _ _ _ _) (fun h8=>?_) (fun h8=>?_)
 ·refine zy ?_
  exact ZAC (ZAD rfl ⟨by rw[ZAt,if_neg hA,if_pos (.inr (.inr (.inr (of_decide_eq_true h8))))];rfl,hE⟩)
 have hB:¬((v.proj<0\/2<v.proj)\/(v.change<0\/60<v.change)\/(v.turn<0\/60<v.turn)\/(v.spool<1\/200000<v.spool)):=fun x=>x.elim (of_decide_eq_false h5) fun x=>x.elim (of_decide_eq_false h6) fun x=>x.elim (of_decide_eq_false h7) (of_decide_eq_false h8);refine zy ?_;refine ZAS rfl rfl rfl rfl rfl Bod.h rfl rfl (ZEK v.speeds _ _ _) fun h9 hE9=>?_;refine zy ?_;exact ZAC (ZAD rfl ⟨by rw[ZAt,if_neg hA,if_neg hB];rfl,hE.trans hE9⟩)
theorem ZMp {tc rc:List Value}{t:ScT}{v:ScR}{h:Heap}(ht:ZBX h tc t)(hT:t.Fit)(hm:ScRR h rc v)(hf:v.Fit):Sv Tryz.prog 64 [.agg ⟨tc⟩,.agg ⟨rc⟩] h (RetP fun r h'=>r=i64 (ZA5 t v)/\Ext h h'):=by
 have ht0:=ht;have hL:=hT.lands;obtain⟨al,cl,at',ct,a1,c1,a2,c2,a3,c3,a4,c4,a5,c5,a6,c6,rfl,-⟩:=ht;refine ZAy fun hw=>?_;refine ZAH Tryz.func64 rfl (by rw[Tryz.ntmps64];rfl) ?_;show Wc Tryz.prog ⟨64,29,none⟩ _ _ _ _ _;obtain rfl:=hm;have hw1:=hf.work;have hw2:=hf.version;refine zy ?_;refine ZAa rfl rfl rfl fun h1 hE1 hW1 hg1 hn1=>?_;refine ZAa rfl rfl rfl fun h2 hE2 hW2 hg2 hn2=>?_;replace hg1:=hE2.get hg1;have hE:=hE1.trans hE2;generalize h.nx=b1 at *;generalize h1.nx=b2 at *;refine zy ?_;refine ZAn rfl rfl rfl rfl rfl Bod.h rfl rfl (ZBQ _ _ hw1) (fun h3 h4 hE4=>?_) (fun h3 h4 hE4=>?_);rotate_left
 ·refine zy ?_
  rw[ZBW] at h3;exact ZAC (ZAD rfl ⟨by rw[ZA5,if_pos (.inl h3)];rfl,hE.trans hE4⟩)
 rw[ZBW] at h3;replace hg1:=hE4.get hg1;replace hg2:=hE4.get hg2;replace hE:=hE.trans hE4;clear hE4;refine zy ?_;refine ZAE rfl rfl rfl rfl (ZIp rfl rfl) (fun h5=>?_) (fun h5=>?_)
 ·refine zy ?_
  refine ZAn rfl rfl rfl rfl rfl Bod.h rfl rfl (ZBQ _ _ hw2) (fun h6 h7 hE7=>?_) (fun h6 h7 hE7=>?_);rotate_left
  ·refine zy ?_
   rw[ZBW] at h6;exact ZAC (ZAD rfl ⟨by rw[ZA5,if_pos (.inr ⟨h5,h6⟩)];rfl,hE.trans hE7⟩)
  rw[ZBW] at h6;have hA:¬(ZBv v.work=false\/(v.version≠[]/\ZBv v.version=false)):=by rw[h3,h6];simp
  replace hg1:=hE7.get hg1;replace hg2:=hE7.get hg2;replace hE:=hE.trans hE7;clear hE7;refine zy ?_;refine ZAn rfl rfl rfl rfl rfl Bod.h rfl rfl (ZDc (ht0.ext hE) hL _) (fun h7 h8 hE8=>?_) (fun h7 h8 hE8=>?_)
  ·refine zy ?_
   exact ZAC (ZAD rfl ⟨by rw[ZA5,if_neg hA,if_pos (of_decide_eq_true h7)];rfl,hE.trans hE8⟩)
  have hB:=of_decide_eq_false h7;replace hg1:=hE8.get hg1;replace hg2:=hE8.get hg2;replace hE:=hE.trans hE8;refine zy ?_;refine ZAS rfl rfl rfl rfl rfl Bod.h rfl rfl (ZEK v.days _ _ _) fun h9 hE9=>?_;refine zy ?_;exact ZAC (ZAD rfl ⟨by rw[ZA5,if_neg hA,if_neg hB];rfl,hE.trans hE9⟩)
 ·have hA:¬(ZBv v.work=false\/(v.version≠[]/\ZBv v.version=false)):=by rw[h3];exact fun x=>x.elim (fun x=>nomatch x) (fun x=>h5 x.1)
  refine zy ?_;refine ZAn rfl rfl rfl rfl rfl Bod.h rfl rfl (ZDc (ht0.ext hE) hL _) (fun h7 h8 hE8=>?_) (fun h7 h8 hE8=>?_)
  ·refine zy ?_
   exact ZAC (ZAD rfl ⟨by rw[ZA5,if_neg hA,if_pos (of_decide_eq_true h7)];rfl,hE.trans hE8⟩)
  have hB:=of_decide_eq_false h7;replace hg1:=hE8.get hg1;replace hg2:=hE8.get hg2;replace hE:=hE.trans hE8;refine zy ?_;refine ZAS rfl rfl rfl rfl rfl Bod.h rfl rfl (ZEK v.days _ _ _) fun h9 hE9=>?_;refine zy ?_;exact ZAC (ZAD rfl ⟨by rw[ZA5,if_neg hA,if_neg hB];rfl,hE.trans hE9⟩)
theorem ZLC (n:Int)(h:Heap):Sv Tryz.prog 136 [i64 n] h (RetP fun v h'=>v=.bool (decide (n<1\/200000<n))/\h'=h):=by
 refine ZAH Tryz.func136 rfl (by rw[Tryz.ntmps136];rfl) ?_;show Wc Tryz.prog ⟨136,5,none⟩ _ _ _ _ _;refine zy ?_;refine ZA6 rfl rfl rfl rfl rfl Bod.h rfl rfl (ZA9 _ _ _ _) ?_;refine zy ?_;exact ZAC (ZAD rfl ⟨rfl,rfl⟩)
theorem ZNY {tc rc:List Value}{t:ScT}{v:ScP}{h:Heap}(ht:ZBX h tc t)(hT:t.Fit)(hm:ScPR h rc v)(hf:v.Fit):Sv Tryz.prog 67 [.agg ⟨tc⟩,.agg ⟨rc⟩] h (RetP fun r h'=>r=i64 (ZAp t v)/\Ext h h'):=by
 have ht0:=ht;have hL:=hT.lands;obtain⟨al,cl,at',ct,a1,c1,a2,c2,a3,c3,a4,c4,a5,c5,a6,c6,rfl,-⟩:=ht;refine ZAy fun hw=>?_;refine ZAH Tryz.func67 rfl (by rw[Tryz.ntmps67];rfl) ?_;show Wc Tryz.prog ⟨67,36,none⟩ _ _ _ _ _;have hm0:=hm;obtain⟨ap,cp,rfl,hR⟩:=hm;have hw1:=hf.work;have hw2:=hf.version;have hw3:=hf.reels;refine zy ?_;refine ZAa rfl rfl rfl fun h1 hE1 hW1 hg1 hn1=>?_;refine ZAa rfl rfl rfl fun h2 hE2 hW2 hg2 hn2=>?_;replace hg1:=hE2.get hg1;have hE:=hE1.trans hE2;generalize h.nx=b1 at *;generalize h1.nx=b2 at *;refine zy ?_;refine ZAn rfl rfl rfl rfl rfl Bod.h rfl rfl (ZBQ _ _ hw1) (fun h3 h4 hE4=>?_) (fun h3 h4 hE4=>?_)
 rotate_left
 ·refine zy ?_
  rw[ZBW] at h3;exact ZAC (ZAD rfl ⟨by rw[ZAp,if_pos (.inl h3)];rfl,hE.trans hE4⟩)
 rw[ZBW] at h3;replace hg1:=hE4.get hg1;replace hg2:=hE4.get hg2;replace hE:=hE.trans hE4;clear hE4;refine zy ?_;refine ZAn rfl rfl rfl rfl rfl Bod.h rfl rfl (ZBQ _ _ hw2) (fun h5 h6 hE6=>?_) (fun h5 h6 hE6=>?_);rotate_left
 ·refine zy ?_
  rw[ZBW] at h5;exact ZAC (ZAD rfl ⟨by rw[ZAp,if_pos (.inr h5)];rfl,hE.trans hE6⟩)
 rw[ZBW] at h5;replace hg1:=hE6.get hg1;replace hg2:=hE6.get hg2;replace hE:=hE.trans hE6;clear hE6;have hA:¬(ZBv v.work=false\/ZBv v.version=false):=by rw[h3,h5];simp
 refine zy ?_;refine ZAP rfl rfl rfl rfl rfl Bod.h rfl rfl (ZA9 _ _ _ _) (fun h7=>?_) (fun h7=>?_)
 ·refine zy ?_
  exact ZAC (ZAD rfl ⟨by rw[ZAp,if_neg hA,if_pos (by have:=of_decide_eq_true h7;omega)];rfl,hE⟩)
 have hB:¬(v.reels.length<1\/12<v.reels.length):=by have:=of_decide_eq_false h7;omega
 refine zy ?_;refine ZAn rfl rfl rfl rfl rfl Bod.h rfl rfl (ZDp (first:=[]) (capv:=[]) (p:=fun n=>decide (n<1\/200000<n)) (hR.ext hE) Bod.h (fun h3 _ x _=>(ZLC x h3).grows) hw3) (fun h8 h9 hE9=>?_) (fun h8 h9 hE9=>?_)
 ·refine zy ?_
  exact ZAC (ZAD rfl ⟨by rw[ZAp,if_neg hA,if_neg hB,if_pos h8];rfl,hE.trans hE9⟩)
 replace hg1:=hE9.get hg1;replace hg2:=hE9.get hg2;replace hE:=hE.trans hE9;have hC:¬(v.reels.any fun n=>decide (n<1\/200000<n))=true:=by rw[h8];simp
 refine zy ?_;refine ZAS rfl rfl rfl rfl rfl Bod.h rfl rfl (ZEK v.speeds _ _ _) fun h10 hE10=>?_;replace hg1:=hE10.get hg1;replace hg2:=hE10.get hg2;replace hE:=hE.trans hE10;refine zy ?_;refine ZAE rfl rfl rfl rfl (ZAb rfl rfl) (fun h11=>?_) (fun h11=>?_)
 ·refine zy ?_
  exact ZAC (ZAD rfl ⟨by rw[ZAp,if_neg hA,if_neg hB,if_neg hC,if_pos h11];rfl,hE⟩)
 refine zy ?_;refine ZAn rfl rfl rfl rfl rfl Bod.h rfl rfl (ZDc (ht0.ext hE) hL _) (fun h12 h13 hE13=>?_) (fun h12 h13 hE13=>?_)
 ·refine zy ?_
  exact ZAC (ZAD rfl ⟨by rw[ZAp,if_neg hA,if_neg hB,if_neg hC,if_neg h11,if_pos (of_decide_eq_true h12)];rfl,hE.trans hE13⟩)
 refine zy ?_;exact ZAC (ZAD rfl ⟨by rw[ZAp,if_neg hA,if_neg hB,if_neg hC,if_neg h11,if_neg (of_decide_eq_false h12)];rfl,hE.trans hE13⟩)
theorem ZOD {tc rc:List Value}{t:ScT}{v:ScPk}{h:Heap}(ht:ZBX h tc t)(hT:t.Fit)(hm:ZEV h rc v)(hf:v.Fit):Sv Tryz.prog 70 [.agg ⟨tc⟩,.agg ⟨rc⟩] h (RetP fun r h'=>r=i64 (ZA8 v)/\Ext h h'):=by
 have ht0:=ht;have hL:=hT.lands;obtain⟨al,cl,at',ct,a1,c1,a2,c2,a3,c3,a4,c4,a5,c5,a6,c6,rfl,-⟩:=ht;refine ZAy fun hw=>?_;refine ZAH Tryz.func70 rfl (by rw[Tryz.ntmps70];rfl) ?_;show Wc Tryz.prog ⟨70,25,none⟩ _ _ _ _ _;obtain rfl:=hm;have hw1:=hf.work;have hw2:=hf.version;refine zy ?_;refine ZAa rfl rfl rfl fun h1 hE1 hW1 hg1 hn1=>?_;refine ZAa rfl rfl rfl fun h2 hE2 hW2 hg2 hn2=>?_;replace hg1:=hE2.get hg1;have hE:=hE1.trans hE2;generalize h.nx=b1 at *;generalize h1.nx=b2 at *;refine zy ?_;refine ZAn rfl rfl rfl rfl rfl Bod.h rfl rfl (ZBQ _ _ hw1) (fun h3 h4 hE4=>?_) (fun h3 h4 hE4=>?_);rotate_left
 ·refine zy ?_
  rw[ZBW] at h3;exact ZAC (ZAD rfl ⟨by rw[ZA8,if_pos (.inl h3)];rfl,hE.trans hE4⟩)
 rw[ZBW] at h3;replace hg1:=hE4.get hg1;replace hg2:=hE4.get hg2;replace hE:=hE.trans hE4;clear hE4;refine zy ?_;refine ZAn rfl rfl rfl rfl rfl Bod.h rfl rfl (ZBQ _ _ hw2) (fun h5 h6 hE6=>?_) (fun h5 h6 hE6=>?_);rotate_left
 ·refine zy ?_
  rw[ZBW] at h5;exact ZAC (ZAD rfl ⟨by rw[ZA8,if_pos (.inr h5)];rfl,hE.trans hE6⟩)
 rw[ZBW] at h5;replace hg1:=hE6.get hg1;replace hg2:=hE6.get hg2;replace hE:=hE.trans hE6;clear hE6;have hA:¬(ZBv v.work=false\/ZBv v.version=false):=by rw[h3,h5];simp
 refine zy ?_;refine ZAP rfl rfl rfl rfl rfl Bod.h rfl rfl (ZA9 _ _ _ _) (fun h7=>?_) (fun h7=>?_)
 ·refine zy ?_
  exact ZAC (ZAD rfl ⟨by rw[ZA8,if_neg hA,if_pos (.inl (of_decide_eq_true h7))];rfl,hE⟩)
 refine zy ?_;refine ZAP rfl rfl rfl rfl rfl Bod.h rfl rfl (ZA9 _ _ _ _) (fun h8=>?_) (fun h8=>?_)
 ·refine zy ?_
  exact ZAC (ZAD rfl ⟨by rw[ZA8,if_neg hA,if_pos (.inr (of_decide_eq_true h8))];rfl,hE⟩)
 refine zy ?_;exact ZAC (ZAD rfl ⟨by rw[ZA8,if_neg hA,if_neg (fun x=>x.elim (of_decide_eq_false h7) (of_decide_eq_false h8))];rfl,hE⟩)
theorem ZPn {tc rc:List Value}{t:ScT}{v:ScK}{h:Heap}(ht:ZBX h tc t)(hT:t.Fit)(hm:ScKR h rc v):Sv Tryz.prog 72 [.agg ⟨tc⟩,.agg ⟨rc⟩] h (RetP fun r h'=>r=i64 (ZCJ t v)/\Ext h h'):=by
 have ht0:=ht;have hL:=hT.lands;obtain⟨al,cl,at',ct,a1,c1,a2,c2,a3,c3,a4,c4,a5,c5,a6,c6,rfl,-⟩:=ht;refine ZAy fun hw=>?_;refine ZAH Tryz.func72 rfl (by rw[Tryz.ntmps72];rfl) ?_;show Wc Tryz.prog ⟨72,26,none⟩ _ _ _ _ _;obtain rfl:=hm;have hq1:=hT.packs;have hq2:=hT.venues;refine zy ?_;refine ZAa rfl rfl rfl fun h1 hE1 hW1 hg1 hn1=>?_;refine ZAa rfl rfl rfl fun h2 hE2 hW2 hg2 hn2=>?_;replace hg1:=hE2.get hg1;have hE:=hE1.trans hE2;generalize h.nx=b1 at *;generalize h1.nx=b2 at *;refine zy ?_;refine ZAP rfl rfl rfl rfl rfl Bod.h rfl rfl (ZA9 _ _ _ _) (fun h3=>?_) (fun h3=>?_)
 ·refine zy ?_
  exact ZAC (ZAD rfl ⟨by rw[ZCJ,if_pos (.inl (of_decide_eq_true h3))];rfl,hE⟩)
 refine zy ?_;refine ZAP rfl rfl rfl rfl rfl Bod.h rfl rfl (ZA9 _ _ _ _) (fun h4=>?_) (fun h4=>?_)
 ·refine zy ?_
  exact ZAC (ZAD rfl ⟨by rw[ZCJ,if_pos (.inr (of_decide_eq_true h4))];rfl,hE⟩)
 refine zy ?_;refine ZAS rfl rfl rfl rfl rfl Bod.h rfl rfl (ZEK v.window _ _ _) fun h5 hE5=>?_;refine zy ?_;exact ZAC (ZAD rfl ⟨by rw[ZCJ,if_neg (fun x=>x.elim (of_decide_eq_false h3) (of_decide_eq_false h4))];rfl,hE.trans hE5⟩)
theorem ZOx {tc rc:List Value}{t:ScT}{v:ScL}{h:Heap}(ht:ZBX h tc t)(hT:t.Fit)(hm:ScLR h rc v):Sv Tryz.prog 74 [.agg ⟨tc⟩,.agg ⟨rc⟩] h (RetP fun r h'=>r=i64 (ZA3 t v)/\Ext h h'):=by
 have ht0:=ht;have hL:=hT.lands;obtain⟨al,cl,at',ct,a1,c1,a2,c2,a3,c3,a4,c4,a5,c5,a6,c6,rfl,-⟩:=ht;refine ZAy fun hw=>?_;refine ZAH Tryz.func74 rfl (by rw[Tryz.ntmps74];rfl) ?_;show Wc Tryz.prog ⟨74,26,none⟩ _ _ _ _ _;obtain rfl:=hm;have hq1:=hT.prints;have hq2:=hT.venues;refine zy ?_;refine ZAa rfl rfl rfl fun h1 hE1 hW1 hg1 hn1=>?_;refine ZAa rfl rfl rfl fun h2 hE2 hW2 hg2 hn2=>?_;replace hg1:=hE2.get hg1;have hE:=hE1.trans hE2;generalize h.nx=b1 at *;generalize h1.nx=b2 at *;refine zy ?_;refine ZAP rfl rfl rfl rfl rfl Bod.h rfl rfl (ZA9 _ _ _ _) (fun h3=>?_) (fun h3=>?_)
 ·refine zy ?_
  exact ZAC (ZAD rfl ⟨by rw[ZA3,if_pos (.inl (of_decide_eq_true h3))];rfl,hE⟩)
 refine zy ?_;refine ZAP rfl rfl rfl rfl rfl Bod.h rfl rfl (ZA9 _ _ _ _) (fun h4=>?_) (fun h4=>?_)
 ·refine zy ?_
  exact ZAC (ZAD rfl ⟨by rw[ZA3,if_pos (.inr (of_decide_eq_true h4))];rfl,hE⟩)
 refine zy ?_;refine ZAS rfl rfl rfl rfl rfl Bod.h rfl rfl (ZEK v.days _ _ _) fun h5 hE5=>?_;refine zy ?_;exact ZAC (ZAD rfl ⟨by rw[ZA3,if_neg (fun x=>x.elim (of_decide_eq_false h3) (of_decide_eq_false h4))];rfl,hE.trans hE5⟩)
end Go.Dw
