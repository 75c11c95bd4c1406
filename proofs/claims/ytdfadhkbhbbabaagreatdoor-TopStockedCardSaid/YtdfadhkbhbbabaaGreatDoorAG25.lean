/- Z19: what works says of a law's records. -/
import Derived.Test.YtdfadhkbhbbabaaGreatDoorAG14
import Derived.Test.YtdfadhkbhbbabaaGreatDoorAG16
import Derived.Test.YtdfadhkbhbbabaaGreatDoorAG19
import Derived.Test.YtdfadhkbhbbabaaGreatDoorAG23
import Derived.Test.YtdfadhkbhbbabaaGreatDoorAG24
import Derived.Test.YtdfadhkbhbbabaaGreatDoorAG2
import Derived.Test.YtdfadhkbhbbabaaGreatDoorAG20
set_option linter.unusedVariables false
set_option linter.unusedSimpArgs false
namespace Go.Dw
open Go Go.Dx Go.Proofs
set_option maxRecDepth 100000
theorem NmOk.inj {α:Type} [Inhabited α]{nm:α->List UInt8}{wrong:α->Int}{l:List α}(h:NmOk nm wrong l):∀i j,i<l.length->j<l.length->nm (l.getD i default)=nm (l.getD j default)->i=j:=by
 have key:∀i j,i<j->j<l.length->nm (l.getD i default)=nm (l.getD j default)->False:=by
  intro i j hij hj e;obtain⟨x,e1,-,h2,-⟩:=h j hj;rw[List.getElem?_eq_getElem hj] at e1;cases e1;rw[ZAW (show i<l.length by omega),ZAW hj] at e;refine h2 (List.mem_map.2 ⟨l[i],?_,e⟩);rw[List.mem_take_iff_getElem];exact⟨i,by omega,rfl⟩
 intro i j hi hj e
 rcases Nat.lt_trichotomy i j with q|q|q
 ·exact (key i j q hj e).elim
 ·exact q
 ·exact (key j i q hi e.symm).elim
theorem NmOk.name {α:Type} [Inhabited α]{nm:α->List UInt8}{wrong:α->Int}{l:List α}(h:NmOk nm wrong l){i:Nat}(hi:i<l.length):ZCv (nm (l.getD i default))=true:=by
 obtain⟨x,e1,h2,-⟩:=h i hi;rw[List.getElem?_eq_getElem hi] at e1;cases e1;rw[ZAW hi];exact h2
theorem ZVI {s:Si}{l:List Mv}(hP:ZGW s l):Ktp s (ZC3 s l):=by
 have M:=hP.mvs;have hc:=hP.site.ok.cans;have up:=List.pairwise_iff_getElem.1 (ZUV s l);generalize ZC3 s l=kept at *;have hm:∀k,k<kept.length->kept.getD k default∈kept:=fun k hk=>by rw[ZAW hk];exact List.getElem_mem _
 refine⟨hP.site.cans.inj,hP.site.rooms.inj,fun i hi=>by rw[ZAW hi];exact hc.room _ (List.getElem_mem _),hc.len,M.len,fun k hk=>M.hour _ (hm k hk),fun k hk=>M.can _ (hm k hk),fun k hk=>M.to _ (hm k hk),fun j k hjk hk=>?_⟩
 rcases Nat.lt_or_eq_of_le hjk with q|rfl
 ·rw[ZAW hk,ZAW (by omega)]
  exact up j k (by omega) hk q
 ·exact Int.le_refl _
theorem ZHN:∀(l:List WkR)(i:Nat),(∀x∈l,ZBG x=0)->ZFy i l=(0,0)
 | [],_,_=>rfl
 | x::l,i,h=>by
  rw[ZFy,if_neg (fun q=>q (h x List.mem_cons_self))];exact ZHN l _ fun y hy=>h y (List.mem_cons_of_mem _ hy)
theorem ZF7 {x:Str}(h:ZCv x=true):x.length<=24:=by
 unfold ZCv at h;simp only[Bool.and_eq_true,decide_eq_true_eq] at h;exact h.1.1.2
structure RecP (x:WkR):Prop where
 ar:x.archive=sVlt
 nr:1<=x.number/\x.number<=9999
 day:0<=x.day/\x.day<=100
 kind:x.kind=5
 a:ZCv x.a=true
 b:ZCv x.b=true
theorem RecP.fit {x:WkR}(p:RecP x):x.Fit:=by
 have h1:=ZF7 p.a;have h2:=ZF7 p.b;exact⟨by rw[p.ar];decide,by omega,by omega⟩
theorem ZQw:ZA7 sVlt=true:=by rw[ZEK];decide
theorem RecP.good {x:WkR}(p:RecP x):ZBG x=0:=by
 have h1:=p.nr;have h2:=p.day;have h3:=p.kind;have hg:ZFv x=true:=by unfold ZFv;rw[if_neg (by omega),if_neg (by omega),ZEK,p.b]
 unfold ZBG;rw[p.ar,ZQw,hg,ZEK x.a,p.a,if_neg (by decide),if_neg (by omega),if_neg (by omega),if_neg (by decide),if_neg (by omega)]
theorem rc_p {s:Si}{kept:List Mv}(K:Ktp s kept)(hs:ZEs s){x:WkR}(h:ZGO s kept s.cans.length x):RecP x:=by
 have hl:=K.len;have hkl:=K.klen;obtain⟨i,hi,⟨k,hk,hL,rfl⟩|⟨hf,rfl⟩⟩:=h
 ·have h1:=K.hour k hk
  have h2:=K.dayN hk;have h3:=K.to k hk;exact⟨rfl,(by show 1<=(k:Int)+1/\(k:Int)+1<=9999;omega),(by show 0<=dayM _/\dayM _<=100;omega),rfl,hs.cans.name hi,hs.rooms.name (by omega)⟩
 ·have h3:=K.room i hi
  exact⟨rfl,(by show 1<=1000+(i:Int)/\1000+(i:Int)<=9999;omega),(by show (0:Int)<=0/\(0:Int)<=100;omega),rfl,hs.cans.name hi,hs.rooms.name (by omega)⟩
theorem ZUt {s:Si}{kept:List Mv}(K:Ktp s kept)(hs:ZEs s):∀x∈rcI s kept s.cans.length,x.Fit:=fun _ hx=>(rc_p K hs (ZJc.1 hx)).fit
theorem ZRI {s:Si}{kept:List Mv}(K:Ktp s kept)(hs:ZEs s):chkS (rcI s kept s.cans.length)=(0,0):=by
 have h1:=ZKP (s:=s) (kept:=kept) s.cans.length;have h2:=K.len;have h3:=K.klen;unfold chkS;rw[if_neg (by omega)];exact ZHN _ 0 fun x hx=>(rc_p K hs (ZJc.1 hx)).good
theorem ZJd {s:Si}{kept:List Mv}(K:Ktp s kept):ZAk (mrgU ltW (rcI s kept s.cans.length))=rcS s kept:=K.stand
theorem ZST {s:Si}{kept:List Mv}(K:Ktp s kept)(hs:ZEs s){i:Nat}(hi:i<s.cans.length){d:Int}(h0:0<=d)(h1:d<=80000):ZH8 (rcI s kept s.cans.length) (s.cans.getD i default).name d=((s.rooms.getD ((whrS s.cans kept (24*d+23)).getD i 0).toNat default).name,0):=by
 unfold ZH8;rw[ZRI K hs,if_neg (fun q=>q rfl),ZJd K,if_neg (fun q=>q (K.items.2 ⟨i,hi,rfl⟩)),if_neg (by omega),K.where' hi h0]
theorem ZSr {s:Si}{kept:List Mv}(K:Ktp s kept)(hs:ZEs s){r:Nat}(hr:r<s.rooms.length){d:Int}(h0:0<=d)(h1:d<=80000):∃L,ZIh (rcI s kept s.cans.length) (s.rooms.getD r default).name d=(L,0)/\L.length=cE (whrS s.cans kept (24*d+23)) s.cans.length r:=by
 refine⟨stkL (rcS s kept) d (s.rooms.getD r default).name,?_,K.stock hr h0⟩;unfold ZIh;rw[ZRI K hs,if_neg (fun q=>q rfl),ZEK,hs.rooms.name hr,if_neg (by decide),if_neg (by omega),ZJd K]
abbrev ZIP:List Nat:=[0,1,2,3,4,5,6,7,8,9,10,11,12,13,14,15,16,17,18,19,20,21]
abbrev ZU0:List Nat:=[0,1,2,3,4,5,6,7,8,9,10,11,12,13,14,15,16,17,18,19,20]
abbrev ZVB:List Nat:=[0,1,2,3,4,5,6,7,8,9,10,11,12,13,14]
abbrev ZRo:List Nat:=[0,1,3,3,15,31,63,3,255,511,1023,1023,4095,8191,16383,32767,1023,66559,197631,524287,1048575,2097151,4194303]
abbrev rcT:TypeId:=45
theorem ZUs (x0 x1 x2 x3 x4 x5:Value):Instr.fill (fun i=>some (i*6,6)) (rep 1 (Value.cells (.agg ⟨[str [],i64 0,i64 0,i64 0,str [],str []]⟩)).toList).toArray [(0,.agg ⟨[x0,x1,x2,x3,x4,x5]⟩)]=some ⟨[x0,x1,x2,x3,x4,x5]⟩:=by kernel_rfl
set_option maxHeartbeats 8000000 in
theorem ZJt {h:Heap}{s:Si}{d:SAd}{l:List Mv}{am:Option Addr}{cm:Nat}{day:Int}(hS:SiAt h s d)(hL:ZQ3 s)(hM:TabA ZBW 3 h am l)(hml:Len l)(hd0:0<=day/\day<256)(hLb:WkLib h) :
  Sv Tryz.prog 3 [.agg ⟨ZFh s d⟩,.slice am l.length cm,.int .u8 day] h (RetP fun v h'=>v=.bool true/\Ext h h'):=by
 refine ZA5 fun hw=>?_;obtain⟨ar,cr,ac,cc,ast,cst⟩:=d;refine ZAG Tryz.func3 rfl (by rw[Tryz.ntmps3];rfl) ?_;show Wc Tryz.prog ⟨3,289,none⟩ _ _ _ _ _;refine zy ?_;refine ZAn rfl rfl rfl fun h1 hE1 hW1 hg1 hn1=>?_;generalize h.nx=b1 at hg1 ⊢;refine zy ?_;refine zR (ZQZ (hS.ext hE1) hL.r hL.c hL.st hL.nr hL.nc) ?_;rintro _ h2 ⟨hE2,a1,i1,e1,rfl,he⟩;have hg2:=hE2.get hg1;replace hE2:=hE1.trans hE2;refine zy ?_;refine zR (ZSQ (hS.ext hE2) hL (hM.ext' hE2) hml) ?_;rintro _ h3 ⟨hE3,hp⟩;have hg3:=hE3.get hg2;replace hE3:=hE2.trans hE3;clear hg1 hg2 hE2 hE1 hW1
 rcases hp with ⟨hP,e2,rfl,he2⟩|⟨hP,v2,ak,ck,rfl,hK⟩
 ·refine zy ?_
  by_cases e0:e1=0
  ·refine zD (A_ff (fun q=>q e0) (ZAh rfl rfl)) ?_
   refine zD (A_tt he2 (ZAh rfl rfl)) ?_;refine zD (A_tt rfl (ZAg rfl rfl)) ?_;refine zW (ZGc (hLb.ext hE3)) fun h6 hE6=>?_;refine zy ?_;exact ZAC (ZAD rfl ⟨rfl,hE3.trans hE6⟩)
  ·refine zD (A_tt e0 (ZAh rfl rfl)) ?_
   refine zD (A_tt rfl (ZAg rfl rfl)) ?_;refine zW (ZGc (hLb.ext hE3)) fun h6 hE6=>?_;refine zy ?_;exact ZAC (ZAD rfl ⟨rfl,hE3.trans hE6⟩)
 have hs:=hP.site;have K:=ZVI hP;have e0:e1=0:=he.2 hs;have hwh:=fun {k:Heap} {hr:Int} (hE:Ext h k) (h0:0<=hr) (h1:hr<=2400)=>ZO9 (hr:=hr) (cm:=cm) (hS.ext hE) hL (hM.ext' hE) hml hP h0 h1;generalize ZC3 s l=kept at *;have hcl:=K.len;have hkl:=K.klen;have hcs:=hs.ok.cans;have hrl:=hs.len;clear hP he;refine zy ?_;refine zD (A_ff (fun q=>q e0) (ZAh rfl rfl)) ?_;refine zE (A_ff (fun q=>q rfl) (ZAh rfl rfl)) ?_;refine ZBC fun hW3=>?_;refine zy ?_;refine ZAN (fun (st:Nat×Value) m ds h'=>ds=[]/\Ext h3 h'/\st.1<=s.cans.length/\Own h3 h' [slI h3 st.2 rcT 6 ((rcI s kept st.1).flatMap rowW) (rcI s kept st.1).length]/\AllK m [(1,.slice am l.length cm),(2,.int .u8 day),(3,.pointer (some ⟨b1,0,none⟩)),(10,.slice ak kept.length ck),(13,st.2),(14,i64 (st.1:Nat))]) (fun st=>s.cans.length-st.1) (0,.slice none 0 0) ?_ ?_
 ·exact⟨rfl,Ext.refl _,Nat.zero_le _,(Own.nil h3 h3).nilSl rcT 6,rfl,rfl,rfl,rfl,rfl,rfl,trivial⟩
 rintro⟨i,v⟩ m ds h4 ⟨rfl,hE4,hi,hO4,hall⟩;refine Wc.le (ZBR fun hW4=>?_) (Le.kn hall);clear hall;simp only at hi hO4 ⊢;have hg4:=hE4.get hg3;refine zy ?_;refine zC (ZAU rfl rfl) (fun hlt=>?_) (fun hlt=>?_)
 ·have hi':i<s.cans.length:=by omega
  have hbI:=ZKP (s:=s) (kept:=kept) i;have hbK:=ZRe (s:=s) (kept:=kept) i
  have hbd:∀k,k<=kept.length->(rcI s kept i++rcK s kept i k).length<=150:=fun k hk=>by
   have:=hbK k;rw[List.length_append];omega
  clear hbI hbK;obtain⟨bc,oc,oac,eac,rowc,hrowc,hxc⟩:=hS.c i hi';have egc:=ZAW hi';have hcr:=hcs.room _ (List.getElem_mem hi');generalize s.cans[i]=c at *;have hx':rowc=ZCz c:=hxc;subst hx';replace eac:ac=some ⟨bc,oc,oac⟩:=eac;subst eac;refine zy ?_;refine ZAN (fun (st:Nat×Value) m ds h'=>ds=[]/\Ext h3 h'/\st.1<=kept.length/\Own h3 h' [slI h3 st.2 rcT 6 ((rcI s kept i++rcK s kept i st.1).flatMap rowW) (rcI s kept i++rcK s kept i st.1).length]/\AllK m [(1,.slice am l.length cm),(2,.int .u8 day),(3,.pointer (some ⟨b1,0,none⟩)),(10,.slice ak kept.length ck),(13,st.2),(14,i64 (i:Nat)),(15,.bool (firK kept i st.1)),(16,i64 (st.1:Nat))]) (fun st=>kept.length-st.1) (0,v) ?_ ?_
  ·exact⟨rfl,hE4,Nat.zero_le _,(by show Own _ _ [slI _ _ _ _ ((rcI s kept i++[]).flatMap rowW) (rcI s kept i++[]).length];rw[List.append_nil];exact hO4),rfl,rfl,rfl,rfl,rfl,rfl,rfl,rfl,trivial⟩
  clear hO4 hE4 hg4 hW4;rintro⟨k,v2⟩ m ds h5 ⟨rfl,hE5,hk,hO5,hall⟩;refine Wc.le (ZBR fun hW5=>?_) (Le.kn hall);clear hall;simp only at hk hO5 ⊢;have hg5:=hE5.get hg3;have hb5:=hbd k hk;refine zy ?_;refine zC (ZAU rfl rfl) (fun hlt2=>?_) (fun hlt2=>?_);rotate_left
  ·have hkn:k=kept.length:=by omega
   subst hkn;have hrw5:=(hE3.trans hE5).row hrowc;have c0:ZAS h5 bc (oc+i*4+0)=some (str c.name):=ZAK (k:=0) hrw5 rfl;have c3:ZAS h5 bc (oc+i*4+3)=some (i64 c.room):=ZAK (k:=3) hrw5 rfl;clear hrw5;have hrI:rcI s kept (i+1)=if firK kept i kept.length=true then rcI s kept i++rcK s kept i kept.length++[rc0 s i] else rcI s kept i++rcK s kept i kept.length:=rfl
   cases hf:firK kept i kept.length with
   | false =>
    rw[hf,if_neg (by decide)] at hrI;refine zy ?_;exact⟨(i+1,v2),(by show s.cans.length-(i+1)<s.cans.length-i;omega),rfl,hE5,hi',(by simp only[hrI];exact hO5),rfl,rfl,rfl,rfl,rfl,rfl,trivial⟩
   | true =>
    rw[hf,if_pos rfl] at hrI;have hrn:c.room.toNat<s.rooms.length:=by omega
    obtain⟨br,orr,oar,ear,rowr,hrowr,hxr⟩:=hS.r c.room.toNat hrn;have egr:=ZAW hrn;generalize s.rooms[c.room.toNat]=x at *;have hx':rowr=ZB3 x:=hxr;subst hx';replace ear:ar=some ⟨br,orr,oar⟩:=ear;subst ear;have r0:ZAS h5 br (orr+c.room.toNat*10+0)=some (str x.name):=ZAK (k:=0) ((hE3.trans hE5).row hrowr) rfl;have hrc:rc0 s i=⟨sVlt,1000+(i:Int),0,5,c.name,x.name⟩:=by unfold rc0;rw[egc,egr]
    have hEa:=Ext.add hW5 (.cells [str sVlt,i64 (1000+(i:Int)),i64 0,i64 5,str c.name,str x.name] rcT false);refine zy ?_;refine ZAL hmix [0,0,2,0,8,0,56,120,248,0,512,0,2048,0,14336,30720,63488,130560,261632,523776,1048574,2097150,4194303,8388607] ZIP (some 22) [([],(some 23)),([],none)] (by kernel_rfl) (by kernel_rfl) ?_;refine z_m ?_;refine z_m ?_;refine z_y ?_;refine z_f ?_;refine z_l ?_;refine z_m ?_;refine ZAB rfl rfl rfl rfl rfl (fun _=>ZAE (k:=i) Und.h Tsz.h rfl rfl rfl hi') ?_;refine z_f ?_;refine z_l ?_;refine z_f ?_;refine z_l ?_;refine z_f ?_;refine z_l ?_;refine z_m ?_;refine ZAB rfl rfl rfl rfl rfl (fun _=>ZAE (k:=i) Und.h Tsz.h rfl rfl rfl hi') ?_;refine z_f ?_;refine z_l ?_;refine ZAB rfl rfl rfl rfl rfl (fun _=>ZAE (k:=c.room.toNat) Und.h Tsz.h rfl rfl (by omega) hrn) ?_;refine z_f ?_;refine z_l ?_;refine ZAB rfl rfl rfl rfl rfl (fun _=>ZC5 (v:=.agg ⟨[str sVlt,i64 (1000+(i:Int)),i64 0,i64 5,str c.name,str x.name]⟩) rfl (by kernel_rfl)) ?_
    refine ZDS (nk:=.sl _ _) rfl rfl rfl rfl rfl (fun _ _ hs=>N_bs hs Und.h Tsz.h Zr.h rfl rfl rfl rfl (ZUs _ _ _ _ _ _)) ?_;refine ZAI (h1:=(Heap.add h5 _)) ZIP (by kernel_rfl) rfl (ZAA rfl) rfl rfl rfl (ZAu (ZCh (by':=72) (sz:=6) (k:=1) (n:=(rcI s kept i++rcK s kept i kept.length).length) (l:=[str sVlt,i64 (1000+(i:Int)),i64 0,i64 5,str c.name,str x.name]) rfl hW3 (hE5.trans hEa) rfl rfl rfl rfl Und.h inferInstance rfl rfl (hO5.ext hEa) ((ZAF.lit (h0:=h3) (n:=1) (sz:=6) Heap.get_add_same rfl hE5.2.1).src (dd:=.slice rcT) Und.h (by intro k;simp)) rfl rfl (by omega) (by omega) (fun v6 h6 hO6 hE6 hw6=>?_)))
    refine ZAI (h1:=h6) [0,1,2,3,4,5,6,7,8,9,10,11,12,13,14,15,16,17,18,19,20,21,22] (by kernel_rfl) rfl (ZAA rfl) rfl rfl rfl (ZCU rfl rfl (ZAj rfl) ?_);refine ZAO (h1:=h6) (ZAA rfl) rfl ?_;refine zy ?_;exact⟨(i+1,v6),(by show s.cans.length-(i+1)<s.cans.length-i;omega),rfl,hE6,hi',(by simp only[hrI];rw[List.flatMap_append,List.length_append,hrc];exact hO6),rfl,rfl,rfl,rfl,rfl,rfl,trivial⟩
  have hk':k<kept.length:=by omega
  obtain⟨bk,ok,oak,eak,rowk,hrowk,hxk⟩:=hK k hk';have egk:=ZAW hk';have hcan:=K.can k hk';have hto:=K.to k hk';have hhr:=K.hour k hk';have hdk:=K.dayN hk';rw[egk] at hcan hto hhr hdk;have hmvf:firK kept i (k+1)=if (kept.getD k default).can=(i:Int) then firK kept i k && decide (0<dayM (kept.getD k default)) else firK kept i k:=rfl
  have hmvr:rcK s kept i (k+1)=if isL kept i k=true then rcK s kept i k++[rcM s kept i k] else rcK s kept i k:=rfl
  have hisl:isL kept i k=(decide ((kept.getD k default).can=(i:Int)) && ZId kept i (dayM (kept.getD k default)) k (kept.length-(k+1))):=rfl;have hrM:rcM s kept i k=⟨sVlt,(k:Int)+1,dayM (kept.getD k default),5,(s.cans.getD i default).name,(s.rooms.getD (kept.getD k default).to.toNat default).name⟩:=rfl;rw[egk] at hmvf hisl hrM;clear egk;generalize kept[k]=mv at *;have hx':rowk=ZBW mv:=hxk;subst hx';replace eak:ak=some ⟨bk,ok,oak⟩:=eak;subst eak;have hrwk:=hE5.row hrowk;have hdm:0<=dayM mv/\dayM mv<=100:=by omega
  refine zy ?_;refine zD (A_ix (k:=k) Und.h Tsz.h rfl rfl hk') ?_;refine ZAJ rfl rfl Zr.h Tsz.h rfl (fun _=>rfl) rfl rfl rfl fun h6 hE6 hW6 hg6 hn6=>?_;have hO6:=hO5.ext hE6;have hgs:=hE6.get hg5;replace hE6:=hE5.trans hE6;clear hO5 hg5 hrwk hW5;generalize h5.nx=b7 at hg6 ⊢;refine zy ?_
  by_cases hc:mv.can=(i:Int)
  rotate_left
  ·refine zE (A_tt hc (ZAh rfl rfl)) ?_
   rw[if_neg hc] at hmvf;rw[hisl,decide_eq_false hc,Bool.false_and,if_neg (by decide)] at hmvr;refine zy ?_;exact⟨(k+1,v2),(by show kept.length-(k+1)<kept.length-k;omega),rfl,hE6,hk',(by simp only[hmvr];exact hO6),rfl,rfl,rfl,rfl,rfl,rfl,(by simp only[hmvf];rfl),rfl,trivial⟩
  refine zE (A_ff (fun q=>q hc) (ZAh rfl rfl)) ?_;rw[if_pos hc] at hmvf;rw[decide_eq_true hc,Bool.true_and] at hisl;refine ZD7 ?_
  show Wc _ _ _ _ _ _ _
  repeat refine ZED ?_
  refine ZFR rfl (ZIL ?_)
  show Wc _ _ _ _ _ _ _
  repeat refine ZED ?_
  refine Wc.mono (Q:=fun z m' ds' h'=>z=.normal/\ds'=[]/\h6=h'/\AllK m' [(1,.slice am l.length cm),(2,.int .u8 day),(3,.pointer (some ⟨b1,0,none⟩)),(10,.slice (some ⟨bk,ok,oak⟩) kept.length ck),(13,v2),(14,i64 (i:Nat)),(15,.bool (firK kept i k)),(16,i64 (k:Nat)),(17,.pointer (some ⟨b7,0,none⟩)),(86,.bool false)]) ?_ ?_
  ·refine zy ?_
   refine zD (A_ff (by omega) (ZAU rfl rfl)) ?_;refine zD (A_ff (by omega) (ZFD rfl rfl)) ?_;exact⟨rfl,rfl,rfl,rfl,rfl,rfl,rfl,rfl,rfl,rfl,rfl,rfl,rfl,trivial⟩
  rintro _ m1 _ _ ⟨rfl,rfl,rfl,hall⟩
  show Wc _ _ _ _ _ _ _
  refine Wc.le ?_ (Le.kn hall);clear hall
  repeat refine ZED ?_
  refine ZFR rfl (ZIL ?_)
  show Wc _ _ _ _ _ _ _
  repeat refine ZED ?_
  refine Wc.mono (Q:=fun z m' ds' h'=>z=.normal/\ds'=[]/\h6=h'/\AllK m' [(1,.slice am l.length cm),(2,.int .u8 day),(3,.pointer (some ⟨b1,0,none⟩)),(10,.slice (some ⟨bk,ok,oak⟩) kept.length ck),(13,v2),(14,i64 (i:Nat)),(15,.bool (firK kept i (k+1))),(16,i64 (k:Nat)),(17,.pointer (some ⟨b7,0,none⟩))]) ?_ ?_
  ·rw[hmvf]
   clear hmvf
   cases hf:firK kept i k with
   | false =>
    refine zy ?_;exact⟨rfl,rfl,rfl,rfl,rfl,rfl,rfl,rfl,rfl,rfl,rfl,rfl,trivial⟩
   | true =>
    by_cases hdp:0<dayM mv
    ·rw[decide_eq_true hdp]
     refine zy ?_;refine zD (ZHi (c:=dayM mv) rfl rfl (by decide) rfl (by omega) (by omega)) ?_;refine zD (A_tt hdp (ZA4 rfl rfl)) ?_;exact⟨rfl,rfl,rfl,rfl,rfl,rfl,rfl,rfl,rfl,rfl,rfl,rfl,trivial⟩
    ·rw[decide_eq_false hdp]
     refine zy ?_;refine zD (ZHi (c:=dayM mv) rfl rfl (by decide) rfl (by omega) (by omega)) ?_;refine zD (A_ff hdp (ZA4 rfl rfl)) ?_;exact⟨rfl,rfl,rfl,rfl,rfl,rfl,rfl,rfl,rfl,rfl,rfl,rfl,trivial⟩
  rintro _ m1 _ _ ⟨rfl,rfl,rfl,hall⟩
  show Wc _ _ _ _ _ _ _
  refine Wc.le ?_ (Le.kn hall);clear hall hmvf;refine zy ?_;refine ZAN (fun (n:Nat) m ds h'=>ds=[]/\h6=h'/\k+1+n<=kept.length/\AllK m [(1,.slice am l.length cm),(2,.int .u8 day),(3,.pointer (some ⟨b1,0,none⟩)),(10,.slice (some ⟨bk,ok,oak⟩) kept.length ck),(13,v2),(14,i64 (i:Nat)),(15,.bool (firK kept i (k+1))),(16,i64 (k:Nat)),(17,.pointer (some ⟨b7,0,none⟩)),(18,.bool (ZId kept i (dayM mv) k n)),(19,i64 ((k:Nat)+1+(n:Nat)))]) (fun n=>kept.length-(k+1+n)) 0 ?_ ?_
  ·exact⟨rfl,rfl,by omega,rfl,rfl,rfl,rfl,rfl,rfl,rfl,rfl,rfl,rfl,by simp;rfl,trivial⟩
  rintro n m ds _ ⟨rfl,rfl,hn,hall⟩;refine Wc.le ?_ (Le.kn hall);clear hall;refine zy ?_;refine zC (ZAU rfl rfl) (fun hlt3=>?_) (fun hlt3=>?_)
  ·obtain⟨jj,hjj⟩:∃jj,jj=k+1+n:=⟨_,rfl⟩
   have hjz:((k:Nat):Int)+1+((n:Nat):Int)=((jj:Nat):Int):=by omega
   have hj':jj<kept.length:=by omega
   have hj1:((jj:Nat):Int)+1=(k:Nat)+1+((n+1:Nat):Int):=by omega
   have hlu:ZId kept i (dayM mv) k (n+1)=(ZId kept i (dayM mv) k n && (decide ((kept.getD (k+1+n) default).can≠(i:Int)) || decide (dayM (kept.getD (k+1+n) default)≠dayM mv))):=rfl;obtain⟨bj,oj,oaj,eaj,rowj,hrowj,hxj⟩:=hK jj hj';have hyh:=K.hour jj hj';have hyd:=K.dayN hj';rw[<-hjj,ZAW hj'] at hlu;rw[ZAW hj'] at hyh hyd;generalize kept[jj]=y at *;have hx':rowj=ZBW y:=hxj;subst hx';cases (show some _=some _ from eaj);have hrw6:=hE6.row hrowj;have y0:ZAS h6 bk (ok+jj*3+0)=some (i64 y.hour):=ZAK (k:=0) hrw6 rfl;have y1:ZAS h6 bk (ok+jj*3+1)=some (i64 y.can):=ZAK (k:=1) hrw6 rfl;clear hrw6 hrowj hrowk
   have hdy:0<=dayM y/\dayM y<=100:=by omega
   rw[hjz];refine zy ?_
   cases hlu0:ZId kept i (dayM mv) k n with
   | false =>
    rw[hlu0,Bool.false_and] at hlu;refine ZAL hmix ZRo ZIP (some 22) [([],none)] (by kernel_rfl) (by kernel_rfl) ?_;refine z_m ?_;refine z_m ?_;refine g_m ?_;refine g_m ?_;refine z_o ?_;refine g_f ?_;refine g_l ?_;refine g_m ?_;refine z_o ?_;refine g_m ?_;refine g_m ?_;refine g_m ?_;refine z_o ?_;refine g_f ?_;refine g_l ?_;refine z_o ?_;refine g_f ?_;refine g_l ?_;refine z_o ?_;refine z_o ?_;refine g_p ?_;refine z_p ?_;refine ZAI ZIP (by kernel_rfl) rfl (ZAA rfl) rfl nb rfl (ZCU rfl rfl (ZAj rfl) ?_);refine ZAO (ZAA rfl) nb' ?_;refine zy ?_;exact⟨n+1,(by show kept.length-(k+1+(n+1))<kept.length-(k+1+n);omega),rfl,rfl,by omega,rfl,rfl,rfl,rfl,rfl,rfl,rfl,rfl,rfl,(by simp only[hlu];rfl),(by simp only[<-hj1];rfl),trivial⟩
   | true =>
    rw[hlu0,Bool.true_and] at hlu
    by_cases hyc:y.can=(i:Int)
    rotate_left
    ·rw[decide_eq_true hyc,Bool.true_or] at hlu
     refine ZAL hmix ZRo ZIP (some 22) [([],none)] (by kernel_rfl) (by kernel_rfl) ?_;refine z_m ?_;refine z_m ?_;refine g_m ?_;refine g_m ?_
     first|refine ZAT rfl rfl rfl rfl ?_|refine ZAB rfl rfl rfl rfl rfl (fun _=>ZAE (k:=jj) Und.h Tsz.h rfl rfl rfl hj') ?_
     refine g_f ?_;refine g_l ?_;refine g_m ?_
     first|refine ZAT rfl rfl rfl rfl ?_|refine ZAB rfl rfl rfl rfl rfl (fun _=>A_tt hyc (ZAh rfl rfl)) ?_
     refine g_m ?_;refine g_m ?_;refine g_m ?_;refine z_o ?_;refine g_f ?_;refine g_l ?_;refine z_o ?_;refine g_f ?_;refine g_l ?_;refine z_o ?_;refine z_o ?_;refine g_p ?_;refine z_p ?_;refine ZAI ZIP (by kernel_rfl) rfl (ZAA rfl) rfl nb rfl (ZCU rfl rfl (ZAj rfl) ?_);refine ZAO (ZAA rfl) nb' ?_;refine zy ?_;exact⟨n+1,(by show kept.length-(k+1+(n+1))<kept.length-(k+1+n);omega),rfl,rfl,by omega,rfl,rfl,rfl,rfl,rfl,rfl,rfl,rfl,rfl,(by simp only[hlu];rfl),(by simp only[<-hj1];rfl),trivial⟩
    rw[decide_eq_false (fun q=>q hyc),Bool.false_or] at hlu
    by_cases hyd2:dayM y=dayM mv
    ·rw[decide_eq_false (fun q=>q hyd2)] at hlu
     refine ZAL hmix ZRo ZIP (some 22) [([],none)] (by kernel_rfl) (by kernel_rfl) ?_;refine z_m ?_;refine z_m ?_;refine g_m ?_;refine g_m ?_
     first|refine ZAT rfl rfl rfl rfl ?_|refine ZAB rfl rfl rfl rfl rfl (fun _=>ZAE (k:=jj) Und.h Tsz.h rfl rfl rfl hj') ?_
     refine g_f ?_;refine g_l ?_;refine g_m ?_
     first|refine ZAT rfl rfl rfl rfl ?_|refine ZAB rfl rfl rfl rfl rfl (fun _=>A_ff (fun q=>q hyc) (ZAh rfl rfl)) ?_
     refine g_m ?_;refine g_m ?_;refine g_m ?_
     first|refine ZAT rfl rfl rfl rfl ?_|refine ZAB rfl rfl rfl rfl rfl (fun _=>ZAE (k:=jj) Und.h Tsz.h rfl rfl rfl hj') ?_
     refine g_f ?_;refine g_l ?_
     first|refine ZAT rfl rfl rfl rfl ?_|refine ZAB rfl rfl rfl rfl rfl (fun _=>ZHi (c:=dayM y) rfl rfl (by decide) rfl (by omega) (by omega)) ?_
     refine g_f ?_;refine g_l ?_
     first|refine ZAT rfl rfl rfl rfl ?_|refine ZAB rfl rfl rfl rfl rfl (fun _=>ZHi (c:=dayM mv) rfl rfl (by decide) rfl (by omega) (by omega)) ?_
     first|refine ZAT rfl rfl rfl rfl ?_|refine ZAB rfl rfl rfl rfl rfl (fun _=>A_ff (fun q=>q hyd2) (ZAh rfl rfl)) ?_
     refine g_p ?_;refine z_p ?_;refine ZAI ZIP (by kernel_rfl) rfl (ZAA rfl) rfl nb rfl (ZCU rfl rfl (ZAj rfl) ?_);refine ZAO (ZAA rfl) nb' ?_;refine zy ?_;exact⟨n+1,(by show kept.length-(k+1+(n+1))<kept.length-(k+1+n);omega),rfl,rfl,by omega,rfl,rfl,rfl,rfl,rfl,rfl,rfl,rfl,rfl,(by simp only[hlu];rfl),(by simp only[<-hj1];rfl),trivial⟩
    ·rw[decide_eq_true hyd2] at hlu
     refine ZAL hmix ZRo ZIP (some 22) [([],none)] (by kernel_rfl) (by kernel_rfl) ?_;refine z_m ?_;refine z_m ?_;refine g_m ?_;refine g_m ?_
     first|refine ZAT rfl rfl rfl rfl ?_|refine ZAB rfl rfl rfl rfl rfl (fun _=>ZAE (k:=jj) Und.h Tsz.h rfl rfl rfl hj') ?_
     refine g_f ?_;refine g_l ?_;refine g_m ?_
     first|refine ZAT rfl rfl rfl rfl ?_|refine ZAB rfl rfl rfl rfl rfl (fun _=>A_ff (fun q=>q hyc) (ZAh rfl rfl)) ?_
     refine g_m ?_;refine g_m ?_;refine g_m ?_
     first|refine ZAT rfl rfl rfl rfl ?_|refine ZAB rfl rfl rfl rfl rfl (fun _=>ZAE (k:=jj) Und.h Tsz.h rfl rfl rfl hj') ?_
     refine g_f ?_;refine g_l ?_
     first|refine ZAT rfl rfl rfl rfl ?_|refine ZAB rfl rfl rfl rfl rfl (fun _=>ZHi (c:=dayM y) rfl rfl (by decide) rfl (by omega) (by omega)) ?_
     refine g_f ?_;refine g_l ?_
     first|refine ZAT rfl rfl rfl rfl ?_|refine ZAB rfl rfl rfl rfl rfl (fun _=>ZHi (c:=dayM mv) rfl rfl (by decide) rfl (by omega) (by omega)) ?_
     first|refine ZAT rfl rfl rfl rfl ?_|refine ZAB rfl rfl rfl rfl rfl (fun _=>A_tt hyd2 (ZAh rfl rfl)) ?_
     refine g_p ?_;refine z_p ?_;refine ZAI ZIP (by kernel_rfl) rfl (ZAA rfl) rfl nb rfl (ZCU rfl rfl (ZAj rfl) ?_);refine ZAO (ZAA rfl) nb' ?_;refine zy ?_;exact⟨n+1,(by show kept.length-(k+1+(n+1))<kept.length-(k+1+n);omega),rfl,rfl,by omega,rfl,rfl,rfl,rfl,rfl,rfl,rfl,rfl,rfl,(by simp only[hlu];rfl),(by simp only[<-hj1];rfl),trivial⟩
  have hnn:n=kept.length-(k+1):=by omega
  subst hnn
  cases hq:ZId kept i (dayM mv) k (kept.length-(k+1)) with
  | false =>
   rw[hisl,hq,if_neg (by decide)] at hmvr;refine zy ?_;exact⟨(k+1,v2),(by show kept.length-(k+1)<kept.length-k;omega),rfl,hE6,hk',(by simp only[hmvr];exact hO6),rfl,rfl,rfl,rfl,rfl,rfl,rfl,rfl,trivial⟩
  | true =>
   rw[hisl,hq,if_pos rfl] at hmvr;have hrn:mv.to.toNat<s.rooms.length:=by omega
   obtain⟨br,orr,oar,ear,rowr,hrowr,hxr⟩:=hS.r mv.to.toNat hrn;have egr:=ZAW hrn;rw[egr,egc] at hrM;generalize s.rooms[mv.to.toNat]=x at *;have hx':rowr=ZB3 x:=hxr;subst hx';replace ear:ar=some ⟨br,orr,oar⟩:=ear;subst ear;have r0:ZAS h6 br (orr+mv.to.toNat*10+0)=some (str x.name):=ZAK (k:=0) ((hE3.trans hE6).row hrowr) rfl;have c0:ZAS h6 bc (oc+i*4+0)=some (str c.name):=ZAK (k:=0) ((hE3.trans hE6).row hrowc) rfl;have hEa:=Ext.add hW6 (.cells [str sVlt,i64 ((k:Int)+1),i64 (dayM mv),i64 5,str c.name,str x.name] rcT false);refine zy ?_;refine ZAL hmix [0,0,2,0,8,24,0,64,0,448,960,1984,0,4096,0,16384,61440,126976,258048,524286,1048574,2097151,4194303] ZU0 (some 21) [([],(some 22)),([],none)] (by kernel_rfl) (by kernel_rfl) ?_
   refine z_m ?_;refine z_m ?_;refine z_y ?_;refine z_f ?_;refine z_l ?_;refine ZAB rfl rfl rfl rfl rfl (fun _=>ZHi (c:=dayM mv) rfl rfl (by decide) rfl (by omega) (by omega)) ?_;refine z_f ?_;refine z_l ?_;refine z_m ?_;refine ZAB rfl rfl rfl rfl rfl (fun _=>ZAE (k:=i) Und.h Tsz.h rfl rfl rfl hi') ?_;refine z_f ?_;refine z_l ?_;refine z_f ?_;refine z_l ?_;refine z_f ?_;refine z_l ?_;refine ZAB rfl rfl rfl rfl rfl (fun _=>ZAE (k:=mv.to.toNat) Und.h Tsz.h rfl rfl (by omega) hrn) ?_;refine z_f ?_;refine z_l ?_;refine ZAB rfl rfl rfl rfl rfl (fun _=>ZC5 (v:=.agg ⟨[str sVlt,i64 ((k:Int)+1),i64 (dayM mv),i64 5,str c.name,str x.name]⟩) rfl (by kernel_rfl)) ?_
   refine ZDS (nk:=.sl _ _) rfl rfl rfl rfl rfl (fun _ _ hs=>N_bs hs Und.h Tsz.h Zr.h rfl rfl rfl rfl (ZUs _ _ _ _ _ _)) ?_;refine ZAI (h1:=(Heap.add h6 _)) ZU0 (by kernel_rfl) rfl (ZAA rfl) rfl rfl rfl (ZAu (ZCh (by':=72) (sz:=6) (k:=1) (n:=(rcI s kept i++rcK s kept i k).length) (l:=[str sVlt,i64 ((k:Int)+1),i64 (dayM mv),i64 5,str c.name,str x.name]) rfl hW3 (hE6.trans hEa) rfl rfl rfl rfl Und.h inferInstance rfl rfl (hO6.ext hEa) ((ZAF.lit (h0:=h3) (n:=1) (sz:=6) Heap.get_add_same rfl hE6.2.1).src (dd:=.slice rcT) Und.h (by intro k;simp)) rfl rfl (by omega) (by omega) (fun v7 h7 hO7 hE7 hw7=>?_)))
   refine ZAI (h1:=h7) ZIP (by kernel_rfl) rfl (ZAA rfl) rfl rfl rfl (ZCU rfl rfl (ZAj rfl) ?_);refine ZAO (h1:=h7) (ZAA rfl) rfl ?_;refine zy ?_;exact⟨(k+1,v7),(by show kept.length-(k+1)<kept.length-k;omega),rfl,hE7,hk',(by simp only[hmvr];rw[<-List.append_assoc,List.flatMap_append,List.length_append,hrM];exact hO7),rfl,rfl,rfl,rfl,rfl,rfl,rfl,rfl,trivial⟩
 have hin:i=s.cans.length:=by omega
 subst hin;obtain⟨al,rfl,hsrc,hnil⟩:=ZAF.rowsAt (enc:=rowW) (k:=6) (fun _=>rfl) (show ZAF _ _ _ _ _ _ _ from hO4.p1) rfl;have hRl:(rcI s kept s.cans.length).length<=90:=by have:=ZKP (s:=s) (kept:=kept) s.cans.length;omega
 have hRL:Len (rcI s kept s.cans.length):=by show _<_;omega
 have hfit:=ZUt K hs;have hdd:0<=day.tmod 100/\day.tmod 100<100:=⟨Int.tmod_nonneg _ hd0.1,Int.tmod_lt_of_pos _ (by decide)⟩;have hwr:=fun {i:Nat} (hi:i<s.cans.length)=>ZST K hs hi (d:=day.tmod 100) hdd.1 (by omega);have hst:=fun {r:Nat} (hr:r<s.rooms.length)=>ZSr K hs hr (d:=day.tmod 100) hdd.1 (by omega);have hwl:=ZFj s.cans kept (24*day.tmod 100+23)
 have hwi:InR s.rooms.length (whrS s.cans kept (24*day.tmod 100+23)):=ZMB hcs.room fun m hm=>by
  obtain⟨k,hk,rfl⟩:=List.getElem_of_mem hm;have:=K.to k hk;rw[ZAW hk] at this;exact this
 have hn':al=none->rcI s kept s.cans.length=[]/\(rcI s kept s.cans.length).length=0:=fun e=>⟨hnil e,by rw[hnil e];rfl⟩;have htv:=fun {k:Heap} (hE:Ext h4 k)=>ZQh (hsrc.ext hE) hn' hfit hRL (hLb.ext ((hE3.trans hE4).trans hE)) (by rw[ZRI K hs]) (by rw[ZJd K];exact K.noTw);have hwv:=fun {k:Heap} {i:Nat} (hi:i<s.cans.length) (hE:Ext h4 k)=>ZJ9 (k:=(s.cans.getD i default).name) (t:=day.tmod 100) (hsrc.ext hE) hn' hfit hRL (hLb.ext ((hE3.trans hE4).trans hE));have hsv:=fun {k:Heap} {r:Nat} (hr:r<s.rooms.length) (hE:Ext h4 k)=>ZSo (p:=(s.rooms.getD r default).name) (t:=day.tmod 100) (hsrc.ext hE) hn' hfit hRL (hLb.ext ((hE3.trans hE4).trans hE)) (by have:=ZF7 (hs.rooms.name hr);omega)
 clear hnil hO4 hsrc hfit hn';generalize rcI s kept s.cans.length=R at *;have hE44:=hE3.trans hE4;refine zy ?_;refine zE (ZDE (n':=day) ⟨_,Und.h⟩ Und.h rfl (show IntKind.i64.wrap day=day from IntWalk.i64_in _ (by omega))) ?_;refine zE (ZVS rfl rfl (by decide)) ?_;generalize day.tmod 100=dd at *;have ehr:dd*24+24-1=24*dd+23:=by omega
 refine zy ?_;refine zD (ZF5 rfl rfl (by omega) (by omega)) ?_;refine zR (hwh (hr:=dd*24+24-1) hE44 (by omega) (by omega)) ?_;rintro _ h5 ⟨hE5,bw,rfl,hgw⟩;rw[ehr] at hgw;generalize whrS s.cans kept (24*dd+23)=W at *;have hg5:=hE5.get hg4;refine zy ?_;refine zR (htv hE5) ?_;rintro _ h6 ⟨rfl,hE6⟩;have hg6:=hE6.get hg5;replace hgw:=hE6.get hgw;have hE46:=hE5.trans hE6;clear hg5 hwh htv;refine zy ?_;refine zD (A_ff (fun q=>q rfl) (ZAh rfl rfl)) ?_;refine zD (A_ff (fun q=>q rfl) (ZAh rfl rfl)) ?_;refine zD (A_ff (fun q=>q rfl) (ZAh rfl rfl)) ?_;refine zD (A_ff (fun q=>q rfl) (ZAh rfl rfl)) ?_;refine ZAN (fun (k:Nat) m ds h'=>ds=[]/\Ext h6 h'/\k<=s.cans.length/\AllK m [(3,.pointer (some ⟨b1,0,none⟩)),(13,.slice al R.length R.length),(20,i64 dd),(21,.slice (some ⟨bw,0,none⟩) s.cans.length s.cans.length),(23,i64 (k:Nat))]) (fun k=>s.cans.length-k) 0 ?_ ?_
 ·exact⟨rfl,Ext.refl _,Nat.zero_le _,rfl,rfl,rfl,rfl,rfl,trivial⟩
 rintro k m ds h7 ⟨rfl,hE7,hkl,hall⟩;refine Wc.le (ZBR fun hW7=>?_) (Le.kn hall);clear hall;have hg7:=hE7.get hg6;have hgw7:=hE7.get hgw;refine zy ?_;refine zC (ZAU rfl rfl) (fun hlt2=>?_) (fun hlt2=>?_)
 ·have hk':k<s.cans.length:=by omega
  obtain⟨bc,oc,oac,eac,rowc,hrowc,hxc⟩:=hS.c k hk';have egc:=ZAW hk';have hwv:=fun {h:Heap} (hE:Ext h4 h)=>hwv hk' hE;rw[hwr hk',egc] at hwv;have hcw:=ZBU hgw7 (r:=k) (by omega);have hwm:W.getD k 0∈W:=by rw[List.getD_eq_getElem?_getD,List.getElem?_eq_getElem (by omega)];exact List.getElem_mem _
  have hwk:=hwi _ hwm;generalize W.getD k 0=z at *;generalize s.cans[k]=c at *;have hx':rowc=ZCz c:=hxc;subst hx';replace eac:ac=some ⟨bc,oc,oac⟩:=eac;subst eac;have c0:ZAS h7 bc (oc+k*4+0)=some (str c.name):=ZAK (k:=0) ((hE44.trans (hE46.trans hE7)).row hrowc) rfl;have hzn:z.toNat<s.rooms.length:=by omega
  obtain⟨br,orr,oar,ear,rowr,hrowr,hxr⟩:=hS.r z.toNat hzn;have egr:=ZAW hzn;rw[egr] at hwv;generalize s.rooms[z.toNat]=x at *;have hx':rowr=ZB3 x:=hxr;subst hx';replace ear:ar=some ⟨br,orr,oar⟩:=ear;subst ear;refine zy ?_;refine ZAL hmix [0,0,3,7,15,31,63,63,255,511,63,1087,3135,8191,16383] ZVB none [] (by kernel_rfl) (by kernel_rfl) ?_;refine z_m ?_;refine z_m ?_;refine ZAB rfl rfl rfl rfl rfl (fun _=>ZAE (k:=k) Und.h Tsz.h rfl rfl rfl hk') ?_;refine z_l ?_;refine ZAB rfl rfl rfl rfl rfl (fun _=>A_ff (by omega) (ZAU rfl rfl)) ?_;refine z_m ?_;refine g_m ?_;refine g_m ?_
  first|refine ZAT rfl rfl rfl rfl ?_|refine ZAB rfl rfl rfl rfl rfl (fun _=>ZAE (k:=k) Und.h Tsz.h rfl rfl rfl hk') ?_
  refine g_l ?_;refine g_f ?_;refine g_l ?_;refine g_c ?_
  first|refine ZAT rfl rfl rfl rfl ?_|refine ZAB rfl rfl rfl rfl rfl (fun _=>A_ff (by omega) (ZFD rfl rfl)) ?_
  refine z_p ?_;refine ZAO (ZAA rfl) nb' ?_;refine zy ?_;refine zD (A_ix (k:=k) Und.h Tsz.h rfl rfl hk') ?_;refine zR (hwv (hE46.trans hE7)) ?_;rintro _ h8 ⟨rfl,hE8⟩;have hg8:=hE8.get hg7;have hcw8:=hE8.cell hcw;have r0:ZAS h8 br (orr+z.toNat*10+0)=some (str x.name):=ZAK (k:=0) ((hE44.trans (hE46.trans (hE7.trans hE8))).row hrowr) rfl;refine zy ?_;refine ZAL hmix [0,1,3,7,7,23,7,7,199,455,1015,2039,4087,8191,16383] ZVB none [] (by kernel_rfl) (by kernel_rfl) ?_;refine z_m ?_;refine ZAB rfl rfl rfl rfl rfl (fun _=>A_ff (fun q=>q rfl) (ZAh rfl rfl)) ?_;refine z_m ?_;refine g_m ?_;refine g_f ?_;refine g_l ?_;refine g_m ?_;refine g_m ?_
  first|refine ZAT rfl rfl rfl rfl ?_|refine ZAB rfl rfl rfl rfl rfl (fun _=>ZAE (k:=k) Und.h Tsz.h rfl rfl rfl hk') ?_
  refine g_l ?_
  first|refine ZAT rfl rfl rfl rfl ?_|refine ZAB rfl rfl rfl rfl rfl (fun _=>ZAE (k:=z.toNat) Und.h Tsz.h rfl rfl (by omega) hzn) ?_
  refine g_f ?_;refine g_l ?_
  first|refine ZAT rfl rfl rfl rfl ?_|refine ZAB rfl rfl rfl rfl rfl (fun _=>A_ff (fun q=>q rfl) (ZA6 rfl rfl)) ?_
  refine z_p ?_;refine ZAO (ZAA rfl) nb' ?_;refine zy ?_;exact⟨k+1,(by show s.cans.length-(k+1)<s.cans.length-k;omega),rfl,hE7.trans hE8,hk',rfl,rfl,rfl,rfl,rfl,trivial⟩
 clear hlt2 hkl hgw hg6 hwv hwr hgw7;have hE47:=hE46.trans hE7;clear hE7 hE46;refine zy ?_;refine ZAN (fun (k:Nat) m ds h'=>ds=[]/\Ext h7 h'/\k<=s.rooms.length/\AllK m [(3,.pointer (some ⟨b1,0,none⟩)),(13,.slice al R.length R.length),(20,i64 dd),(26,i64 (cW W s.cans.length k:Nat)),(27,i64 (k:Nat))]) (fun k=>s.rooms.length-k) 0 ?_ ?_
 ·exact⟨rfl,Ext.refl _,Nat.zero_le _,rfl,rfl,rfl,(by rw[ZTs hwi];rfl),rfl,trivial⟩
 rintro k m ds h8 ⟨rfl,hE8,hkl,hall⟩;refine Wc.le (ZBR fun hW8=>?_) (Le.kn hall);clear hall;have hg8:=hE8.get hg7;refine zy ?_;refine zC (ZAU rfl rfl) (fun hlt2=>?_) (fun hlt2=>?_)
 ·have hk':k<s.rooms.length:=by omega
  obtain⟨br,orr,oar,ear,rowr,hrowr,hxr⟩:=hS.r k hk';have egr:=ZAW hk';have hsv:=fun {h:Heap} (hE:Ext h4 h)=>hsv hk' hE;obtain⟨L,eL,hL2⟩:=hst hk';rw[eL,egr] at hsv
  dsimp only at hsv
  generalize s.rooms[k]=x at *;have hx':rowr=ZB3 x:=hxr;subst hx';replace ear:ar=some ⟨br,orr,oar⟩:=ear;subst ear;have r0:ZAS h8 br (orr+k*10+0)=some (str x.name):=ZAK (k:=0) ((hE44.trans (hE47.trans hE8)).row hrowr) rfl;have hcs2:=ZTt W s.cans.length k;have hb1:cW W s.cans.length k<=s.cans.length:=by have:=List.countP_le_length (p:=fun i=>decide (W.getD i 0<(k:Int))) (l:=List.range s.cans.length);rw[List.length_range] at this;exact this
  have hb2:cE W s.cans.length k<=s.cans.length:=by have:=List.countP_le_length (p:=fun i=>decide (W.getD i 0=(k:Int))) (l:=List.range s.cans.length);rw[List.length_range] at this;exact this
  rw[<-hL2] at hcs2 hb2;generalize cW W s.cans.length k=q1 at *;refine zy ?_;refine zD (A_ix (k:=k) Und.h Tsz.h rfl rfl hk') ?_;refine zR (hsv (hE47.trans hE8)) ?_;rintro _ h9 ⟨⟨v9,rfl,hF⟩,hE9⟩;obtain⟨a9,rfl,-⟩:=hF.is;have hg9:=hE9.get hg8;refine zy ?_;refine zD (A_ff (fun q=>q rfl) (ZAh rfl rfl)) ?_;exact⟨k+1,(by show s.rooms.length-(k+1)<s.rooms.length-k;omega),rfl,hE8.trans hE9,hk',rfl,rfl,rfl,(by rw[hcs2,Int.natCast_add];rfl),rfl,trivial⟩
 have hkn:k=s.rooms.length:=by omega
 subst hkn;have hall2:=ZU2 hwi;rw[hwl] at hall2;rw[hall2];refine zy ?_;refine zD (A_tt rfl (ZAg rfl rfl)) ?_;refine zW (ZGc (hLb.ext (hE44.trans (hE47.trans hE8)))) fun h10 hE10=>?_;refine zy ?_;exact ZAC (ZAD rfl ⟨rfl,(hE44.trans (hE47.trans hE8)).trans hE10⟩)
end Go.Dw
