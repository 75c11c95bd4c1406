/- B3: contracts: what the ZEk of program remembers. -/
import Derived.Test.YtfgeelpahicelaaGreatDoorXG2
import Derived.Test.YtfgeelpahicelaaGreatDoorXG10
import Derived.Test.YtfgeelpahicelaaGreatDoorXG5
import Derived.Test.YtfgeelpahicelaaGreatDoorXG7
set_option linter.unusedVariables false
set_option linter.unusedSimpArgs false
namespace Go.Dw
open Go Go.Dx Go.Proofs
set_option maxRecDepth 100000
noncomputable def intK:KeyK Tryz.prog 3 Int where
 enc:=i64
 ks:=.basic (.int .i64)
 hks:=by kernel_rfl
 flat:=fun _=>rfl
 ok:=fun _=>rfl
 eq:=fun a b=>by
  show Instr.sameNow (.int .i64) (i64 a) (i64 b)=_
  have e:∀x y:Int,(x == y)=decide (x=y):=fun _ _=>rfl;simp[Instr.sameNow,e]
 same:=fun a=>by simp[Instr.sameBits]
def ivZ (t:ScT)(z:Nat×ScS):Iv:=⟨z.2.minute,ZA0 t z.2,z.2.worth⟩
theorem ZGd {t:ScT}(hO:ScOk t){z:Nat×ScS}(h0:ZAQ t z.2=0):(ivZ t z).Ok:=by
 obtain⟨h1,h2,h3,h4,h5⟩:=ZEQ hO h0;obtain⟨-,-,-,-,w1,w2⟩:=ZAo h0;exact⟨h5,(by show z.2.minute<ZA0 t z.2;omega),w1⟩
def ZGF (l:List Iv)(memo:List (Int×Value)):Prop:=∀k v,lkp k memo=some v->v=i64 (ZBH l k)
theorem ZGF.nil (l:List Iv):ZGF l []:=fun k v h=>by simp[lkp] at h
theorem ZGF.set {l:List Iv}{memo:List (Int×Value)}(h:ZGF l memo)(n:Int):ZGF l (setK n (i64 (ZBH l n)) memo):=by
 intro k v hk;rw[ZJA] at hk
 split at hk
 ·rename_i e
  cases hk;rw[e]
 ·exact h k v hk
def ZHn (l:List Iv)(n:Int)(k:Nat):Int:=ZBs (fun x:Iv=>x.e<=n) (fun x=>x.w+ZBH l x.s) 0 (l.take k)
theorem ZMk {l:List Iv}{n:Int}{k:Nat}(hk:k<l.length):ZHn l n (k+1)=if l[k].e<=n then max (ZHn l n k) (l[k].w+ZBH l l[k].s) else ZHn l n k:=by
 unfold ZHn ZBs;rw[List.take_succ_eq_append_getElem hk,List.foldl_append]
 rfl
structure ZFF (h:Heap)(c1 c2 c3 bm bH:Nat)(t:ScT)(a:Option Addr)(cap:Nat)(zs:List (Nat×ScS))(memo:List (Int×Value)):Prop where
 g1:h.get c1=some (.cells [.map (some bm)] 226 false)
 g2:h.get c2=some (.cells [.slice a zs.length cap] 177 false)
 g3:h.get c3=some (.cells [.func (.func 157) ⟨[]⟩ ⟨[.pointer (some ⟨c1,0,none⟩),.pointer (some ⟨c2,0,none⟩),.pointer (some ⟨c3,0,none⟩)]⟩] 185 false)
 li:ZBL ptrZ h a zs
 sh:ZCg h bH t zs
 mp:MapB intK h bm memo
 ok:ZGF (zs.map (ivZ t)) memo
theorem ZFF.ne {h:Heap}{c1 c2 c3 bm bH:Nat}{t:ScT}{a:Option Addr}{cap:Nat}{zs:List (Nat×ScS)}{memo:List (Int×Value)}(p:ZFF h c1 c2 c3 bm bH t a cap zs memo){b:Nat}{vs:List Value}{el:TypeId}{op:Bool}(hg:h.get b=some (.cells vs el op)):b≠bm:=fun e=>by
 obtain⟨es,cl,h1,-⟩:=p.mp;rw[e,h1] at hg;cases hg
theorem ZFF.ex {h h':Heap}{c1 c2 c3 bm bH:Nat}{t:ScT}{a:Option Addr}{cap:Nat}{zs:List (Nat×ScS)}{memo memo':List (Int×Value)}(p:ZFF h c1 c2 c3 bm bH t a cap zs memo)(hE:Exb (fun b=>b=bm) h h')(hl:ZBL ptrZ h' a zs)(hm:MapB intK h' bm memo')(ho:ZGF (zs.map (ivZ t)) memo'):ZFF h' c1 c2 c3 bm bH t a cap zs memo' :=
 ⟨hE.get (p.ne p.g1) p.g1,hE.get (p.ne p.g2) p.g2,hE.get (p.ne p.g3) p.g3,hl,fun z hz=>hE.get (p.ne (p.sh z hz)) (p.sh z hz),hm,ho⟩
theorem ZQ7 {h h':Heap}{bm:Nat}{a:Option Addr}{zs:List (Nat×ScS)}(hl:ZBL ptrZ h a zs)(hE:Exb (fun b=>b=bm) h h')(hb:∀b o oa,a=some ⟨b,o,oa⟩->b≠bm):ZBL ptrZ h' a zs:=fun i hi=>by
 obtain⟨b,o,oa,e,hc⟩:=hl i hi;obtain⟨x,hx⟩:=ZDg hc;exact⟨b,o,oa,e,by rw[ZEM (hE.get (hb b o oa e) hx |>.trans hx.symm)];exact hc⟩
theorem ZDm {l:List Iv}(hl:∀x∈l,x.Ok)(hw:∀x∈l,x.w<=1000000):∀(n:Nat),ZBH l n<=1000000*(n:Int):=by
 intro n
 induction n using Nat.strongRecOn with
 | _ n ih =>
 rw[ZE9 hl (by omega)];refine ZGY (by omega) fun x hx he=>?_;have h1:=hl x hx;have h2:=hw x hx;have h3:=ih x.s.toNat (by have:=h1.s0;have:=h1.se;omega);rw[Int.toNat_of_nonneg h1.s0] at h3;have:=h1.se;omega
set_option maxHeartbeats 4000000 in
theorem ZD0 {c1 c2 c3 bm bH cap:Nat}{t:ScT}{a:Option Addr}{zs:List (Nat×ScS)}(hO:ScOk t)(hz:∀z∈zs,ZAQ t z.2=0)(hlen:zs.length<=1000000)(hb:∀b o oa,a=some ⟨b,o,oa⟩->b≠bm):∀(n:Nat),n<=200000->∀(h:Heap)(memo:List (Int×Value)),ZFF h c1 c2 c3 bm bH t a cap zs memo →
  Sv Tryz.prog 157 [i64 (n:Nat),.pointer (some ⟨c1,0,none⟩),.pointer (some ⟨c2,0,none⟩),.pointer (some ⟨c3,0,none⟩)] h (RetP fun v h'=>v=i64 (ZBH (zs.map (ivZ t)) n)/\Exb (fun b=>b=bm) h h'/\∃memo',ZFF h' c1 c2 c3 bm bH t a cap zs memo'):=by
 have hl:∀x∈zs.map (ivZ t),x.Ok:=fun x hx=>by
  obtain⟨z,hz1,rfl⟩:=List.mem_map.1 hx;exact ZGd hO (hz z hz1)
 have hw:∀x∈zs.map (ivZ t),x.w<=1000000:=fun x hx=>by
  obtain⟨z,hz1,rfl⟩:=List.mem_map.1 hx;obtain⟨-,-,-,-,w1,w2⟩:=ZAo (hz z hz1);exact w2
 intro n
 induction n using Nat.strongRecOn with
 | _ n ih =>
 intro hn h memo hP;have g1:=hP.g1;have g2:=hP.g2;have hmp:=hP.mp;refine ZAH Tryz.func157 rfl (by rw[Tryz.ntmps157];rfl) ?_;show Wc Tryz.prog ⟨157,48,none⟩ _ _ _ _ _;refine zy ?_
 cases hq:lkp (n:Int) memo with
 | some v =>
  obtain rfl:=hP.ok _ _ hq;refine ZAI rfl rfl rfl rfl (ZGj intK (k:=(n:Int)) (v:=i64 (ZBH (zs.map (ivZ t)) n)) (q:=true) Und.h Zr.h rfl hmp rfl (by rw[hq];rfl) (by rw[hq];rfl)) ?_;refine zy ?_;exact ZAC (ZAD rfl ⟨rfl,Exb.refl _ _,memo,hP⟩)
 | none =>
  refine ZAI rfl rfl rfl rfl (ZGj intK (k:=(n:Int)) (v:=i64 0) (q:=false) Und.h Zr.h rfl hmp rfl (by rw[hq];rfl) (by rw[hq];rfl)) ?_;refine zy ?_;refine ZAT (fun (k:Nat) m ds h'=>ds=[]/\k<=zs.length/\Exb (fun b=>b=bm) h h'/\(∃memo',ZFF h' c1 c2 c3 bm bH t a cap zs memo')/\AllK m [(0,i64 (n:Nat)),(1,.pointer (some ⟨c1,0,none⟩)),(3,.pointer (some ⟨c3,0,none⟩)),(6,i64 (ZHn (zs.map (ivZ t)) n k)),(18,.slice a zs.length cap),(19,i64 zs.length),(20,i64 (k:Nat))]) (fun k=>zs.length-k) 0 ?_ ?_
  ·exact⟨rfl,Nat.zero_le _,Exb.refl _ _,⟨memo,hP⟩,rfl,rfl,rfl,rfl,rfl,rfl,rfl,trivial⟩
  rintro k m ds h1 ⟨rfl,hk,hE,⟨memo1,hP1⟩,hall⟩;refine Wc.le ?_ (Le.kn hall);clear hall g1 g2 hmp;have g1:=hP1.g1;have g3:=hP1.g3;refine zy ?_;refine ZAE rfl rfl rfl rfl (ZAW rfl rfl) (fun hlt=>?_) (fun hlt=>?_);rotate_left
  ·have hk2:k=zs.length:=by omega
   have hbest:ZHn (zs.map (ivZ t)) n k=ZBH (zs.map (ivZ t)) n:=by
    rw[ZE9 hl (by omega)];unfold ZHn;rw[hk2,<-List.length_map (f:=ivZ t),List.take_length]
   rw[hbest];refine zy ?_;refine ZIt intK (k:=(n:Int)) rfl Und.h rfl hP1.mp rfl rfl fun h2 o2 hU2 hm2=>?_;refine zy ?_;have hX:Exb (fun b=>b=bm) h1 h2:=(Exb.refl _ _).upd hU2 rfl;exact ZAC (ZAD rfl ⟨rfl,hE.trans hX,_,hP1.ex hX (ZQ7 hP1.li hX hb) hm2 (hP1.ok.set _)⟩)
  have hk':k<zs.length:=by omega
  obtain⟨b,o,oa,rfl,hcell⟩:=hP1.li k hk';have hzk:=hz _ (List.getElem_mem hk');have hsh:=hP1.sh _ (List.getElem_mem hk');have hsucc:=ZMk (l:=zs.map (ivZ t)) (n:=(n:Int)) (k:=k) (by rw[List.length_map];exact hk');rw[List.getElem_map] at hsucc;have hxo:=ZGd hO hzk;have hov:=ZG7 hsh hO hzk;obtain⟨-,-,-,-,w1,w2⟩:=ZAo hzk;have hsh2:∀{h2:Heap},Exb (fun b=>b=bm) h1 h2->h2.get zs[k].1=h1.get zs[k].1:=fun {h2} hX=>(hX.get (hP1.ne hsh) hsh).trans hsh.symm;generalize zs[k]=z at *;obtain⟨s0,se,-⟩:=hxo;replace s0:0<=z.2.minute:=s0;replace se:z.2.minute<ZA0 t z.2:=se;have hmin:((z.2.minute.toNat:Nat):Int)=z.2.minute:=Int.toNat_of_nonneg s0
  have hml:=ZDm hl hw z.2.minute.toNat;have hm0:=ZBo hl s0;rw[hmin] at hml;replace hsucc:ZHn (zs.map (ivZ t)) n (k+1)=if ZA0 t z.2<=n then max (ZHn (zs.map (ivZ t)) n k) (z.2.worth+ZBH (zs.map (ivZ t)) z.2.minute) else ZHn (zs.map (ivZ t)) n k:=hsucc
  unfold ZBU ZGr at hsh;refine zy ?_;refine ZAI rfl rfl rfl rfl (A_ix Und.h Tsz.h rfl rfl) ?_;refine zy ?_;refine ZA6 rfl rfl rfl rfl rfl Bod.h rfl rfl (hov) ?_;refine zy ?_
  by_cases hle:ZA0 t z.2<=n
  ·rw[if_pos hle] at hsucc
   have hrec:=ih z.2.minute.toNat (by omega) (by omega) h1 memo1 hP1;rw[hmin] at hrec;refine ZAI rfl rfl rfl rfl (A_tt hle (ZD7 rfl rfl)) ?_;refine zy ?_;refine ZAJ hmix [0,0,2,6,14,30,0,0,128,384,896,1920,4032,8190,16383,32767] [0,1,2,3,4,5,6,7,8,9,10,11] (some 12) [([13,14],(some 15)),([],none)] (by kernel_rfl) (by kernel_rfl) ?_;refine z_m ?_;refine z_m ?_;refine z_q ?_;refine z_f ?_;refine z_f ?_;refine z_l ?_;refine z_l ?_;refine z_m ?_;refine z_q ?_;refine z_f ?_;refine z_f ?_;refine z_l ?_;refine ZAF [6,7,8,9,10,11] (by kernel_rfl) rfl (ZAA rfl) rfl nb rfl (ZFE rfl rfl rfl rfl rfl Bod.h hrec (fun v h2 hR=>?_))
   obtain⟨rfl,hX,memo2,hP2⟩:=hR;have hsh3:=(hsh2 hX).trans hsh;refine ZAB rfl rfl rfl rfl rfl (fun _=>ZCH rfl rfl (by omega) (by omega)) ?_;refine z_x ?_;refine ZAF [0,1,2,3,4,5,6,7,8,9,10,11,12,13,14] (by kernel_rfl) rfl (by refine t_l 5 ?_;refine t_f 4 ?_;refine t_f 3 ?_;refine t_q 2 ?_;refine t_m 1 ?_;refine t_m 0 ?_;exact ZAA rfl) rfl nb rfl (ZAj rfl rfl (ZAO rfl) ?_);refine ZAM (ZAA rfl) nb' ?_;refine zy ?_;exact⟨k+1,(by show zs.length-(k+1)<zs.length-k;omega),rfl,hk',hE.trans hX,⟨memo2,hP2⟩,rfl,rfl,rfl,(by rw[hsucc];rfl),rfl,rfl,rfl,trivial⟩
  ·rw[if_neg hle] at hsucc
   refine ZAI rfl rfl rfl rfl (A_ff hle (ZD7 rfl rfl)) ?_;refine zy ?_;exact⟨k+1,(by show zs.length-(k+1)<zs.length-k;omega),rfl,hk',hE,⟨memo1,hP1⟩,rfl,rfl,rfl,(by rw[hsucc];rfl),rfl,rfl,rfl,trivial⟩
theorem ZFy {bH cap:Nat}{t:ScT}{a:Option Addr}{zs:List (Nat×ScS)}{h:Heap}(hl:ZBL ptrZ h a zs)(hs:ZCg h bH t zs):Sv Tryz.prog 109 [.slice a zs.length cap] h (RetP fun v h'=>∃c1 c2 c3 bm,v=.func (.func 157) ⟨[]⟩ ⟨[.pointer (some ⟨c1,0,none⟩),.pointer (some ⟨c2,0,none⟩),.pointer (some ⟨c3,0,none⟩)]⟩/\Ext h h'/\(h.nx<=bm/\h.nx<=c1/\h.nx<=c2/\h.nx<=c3)/\ZFF h' c1 c2 c3 bm bH t a cap zs []):=by
 refine ZAy fun hw=>?_;refine ZAH Tryz.func109 rfl (by rw[Tryz.ntmps109];rfl) ?_;show Wc Tryz.prog ⟨109,8,none⟩ _ _ _ _ _;refine zy ?_;refine ZAa rfl rfl rfl fun h1 hE1 hW1 hg1 hn1=>?_;refine zy ?_;refine ZFL rfl rfl fun h2 hE2 hW2 hg2 hn2=>?_;refine zy ?_;refine ZAh rfl rfl Zr.h Tsz.h rfl (fun _=>rfl) rfl rfl rfl fun h3 hE3 hW3 hg3 hn3=>?_;refine zy ?_;refine ZCD rfl rfl Zr.h fun h4 hE4 hW4 hg4 hn4=>?_;have lt1:=hW3 _ _ (hE3.get (hE2.get hg1));have lt2:=hW3 _ _ (hE3.get hg2);have lt3:=hW3 _ _ hg3;refine zy ?_;refine ZBF rfl Tsz.h rfl rfl hg4 rfl rfl rfl fun h5 hU=>?_;have k1:=hU.get (show h.nx≠h3.nx by omega) (hE4.get (hE3.get (hE2.get hg1)))
 have k2:=hU.get (show h1.nx≠h3.nx by omega) (hE4.get (hE3.get hg2));have k3:=hU.get (show h2.nx≠h3.nx by omega) (hE4.get hg3);have hE:=hU.ext (((hE1.trans hE2).trans hE3).trans hE4) hw (by omega);have k4:=hU.at';refine zy ?_;exact ZAC (ZAD rfl ⟨h2.nx,h.nx,h3.nx,h1.nx,rfl,hE,⟨by omega,by omega,by omega,by omega⟩,⟨k3,k1,k4,hl.ext hE,ZCg.ext hs hE,MapB.new intK k2,ZGF.nil _⟩⟩)
theorem ZJM {P:Program}{t el:TypeId}(hu:P.underlying t=some (.slice el))(n:Nat)(w:World):(Op.equalIn (n+1) t (.slice none 0 0) (.slice none 0 0)).run P w=.ok true w:=by
 simp only[Op.equalIn,Sem.run_bind,run_underlying hu,Result.andThen_ok,Sem.run_pure]
 rfl
section
variable {P:Program}{m:Mem}{h:Heap}{d:Option Tmp}{ty:TypeId}{pos:String}{af:Array Edge}{gu:Option (Nat×Bool)}{t tz el:TypeId}{x y:Operand}
theorem ZPX (hu:P.underlying t=some (.slice el))(hx:opk h m x=some (.slice none 0 0))(hy:opk h m y=some (.slice none 0 0)):Aop P ⟨d,.binOp .eql t x y tz,ty,pos,af,gu⟩ m h (.bool true) h :=
 ZEf hx hy rfl rfl rfl fun w=>by
  have h2:(eqGuard .eql t x y (.slice none 0 0) (.slice none 0 0)).run P w=.ok () w:=rfl;simp only[Sem.run_bind,h2,Result.andThen_ok]
  show (do pure (.bool (<-Op.equalIn (9999+1) t (.slice none 0 0) (.slice none 0 0))):Sem Value).run P w=_
  simp only[Sem.run_bind,ZJM hu,Result.andThen_ok,Sem.run_pure]
theorem ZP3 {a:Addr}{n c:Nat}(hu:P.underlying t=some (.slice el))(hx:opk h m x=some (.slice (some a) n c))(hy:opk h m y=some (.slice none 0 0)):Aop P ⟨d,.binOp .eql t x y tz,ty,pos,af,gu⟩ m h (.bool false) h :=
 ZA1 fun e hs=>by
  show pBin P _ h e .eql t x y=_
  unfold pBin;simp only[ZAU hs hx,ZAU hs hy];have:ZEt P .eql t (.slice (some a) n c) (.slice none 0 0)=some (.bool false):=by
   unfold ZEt;rw[hu]
   rfl
  simp only[this]
end
theorem ZNc {a:Option Addr}{cap:Nat}{l:List (Nat×ScS)}{h:Heap}(hs:ZKW ptrZ h a l)(hn:a=none->l.length=0/\cap=0)(hlen:l.length<=1000000) :
  Sv Tryz.prog 111 [.slice a l.length cap] h (RetP fun v' h'=>ZAG h h' v' 152 1 (l.map ptrZ) l.length/\Ext h h'):=by
 refine ZAy fun hw=>?_;have h1:allOne (l.map ptrZ)=true:=by
  unfold allOne;rw[List.all_map];exact List.all_eq_true.2 fun _ _=>rfl
 refine ZAH Tryz.func111 rfl (by rw[Tryz.ntmps111];rfl) ?_;show Wc Tryz.prog ⟨111,8,none⟩ _ _ _ _ _;refine zy ?_
 cases a with
 | none =>
  obtain⟨e1,rfl⟩:=hn rfl;rw[e1,List.eq_nil_of_length_eq_zero e1];refine ZAI rfl rfl rfl rfl (ZPX Und.h rfl rfl) ?_;refine zy ?_;exact ZAC (ZAD rfl ⟨ZAG.nil _ _ _ _,Ext.refl _⟩)
 | some a =>
  refine ZAI rfl rfl rfl rfl (ZP3 Und.h rfl rfl) ?_;refine zy ?_;refine ZC8 rfl rfl Und.h Tsz.h Zr.h rfl rfl rfl rfl rfl fun h1' hE1 hW1 hg1 hx1=>?_;refine zy ?_;refine ZDK (k:=l.length) (n:=0) (l:=l.map ptrZ) hw hE1 rfl rfl rfl rfl rfl Und.h inferInstance rfl rfl (ZAG.lit (n:=0) (sz:=1) (cs:=[]) hg1 rfl (Nat.le_refl _)) ((hs.ext hE1).src (dd:=.slice 152) Und.h (by intro k;simp)) (by rw[List.length_map];omega) h1 (by omega) (by omega) fun v2 h2 hF2 hE2 _ _ _=>?_;refine zy ?_;refine ZAC (ZAD rfl ⟨?_,hE2⟩);rw[List.nil_append,Nat.zero_add] at hF2;exact hF2
def canS (t:ScT)(v:Int)(l:List ScS):List (ScS×Nat):=l.zipIdx.filter fun c=>decide (c.1.venue=v/\whyS t c.1=0)
def ZA4 (t:ScT)(v:Int)(l:List ScS):Int:=if ZCU t≠0 then ZCU t else if v<0\/(t.venues.length:Int)-1<v then 4 else ZBT t l
theorem ZHe {t:ScT}{v:Int}{l:List ScS}{k:Nat}(hk:k<l.length):canS t v (l.take (k+1))=canS t v (l.take k)++if l[k].venue=v/\whyS t l[k]=0 then [(l[k],k)] else []:=by
 have htk:l.take (k+1)=l.take k++[l[k]]:=by rw[List.take_add_one,List.getElem?_eq_getElem hk];rfl
 have hlk:(l.take k).length=k:=by rw[List.length_take];omega
 unfold canS;rw[htk,List.zipIdx_append,List.filter_append,hlk,Nat.zero_add]
 congr 1
 by_cases c:l[k].venue=v/\whyS t l[k]=0
 ·rw[if_pos c]
  simp[List.zipIdx,c]
 ·rw[if_neg c]
  simp only[List.zipIdx,List.filter_cons,decide_eq_false c,List.filter_nil]
  rfl
theorem ZFM {t:ScT}{v:Int}{l:List ScS}:(canS t v l).length<=l.length:=by
 have:=List.length_filter_le (fun c:ScS×Nat=>decide (c.1.venue=v/\whyS t c.1=0)) l.zipIdx;rw[List.length_zipIdx] at this;exact this
theorem ZLw {t:ScT}{v:Int}{l:List ScS}{c:ScS×Nat}(hc:c∈canS t v l):c.2<l.length/\l[c.2]?=some c.1/\c.1.venue=v/\whyS t c.1=0:=by
 obtain⟨h1,h2⟩:=List.mem_filter.1 hc;have h3:=List.mem_zipIdx_iff_getElem?.1 h1;have h4:=of_decide_eq_true h2;obtain⟨h5,-⟩:=List.getElem?_eq_some_iff.1 h3;exact⟨h5,h3,h4⟩
def CanR (t:ScT)(v:Int)(l:List ScS)(h:Heap)(r:Value)(h':Heap):Prop:=Ext h h'/\((¬ZA4 t v l=0/\r=.tuple ⟨[.slice none 0 0,.slice none 0 0,i64 (ZA4 t v l)]⟩)\/(ZA4 t v l=0/\ScOk t/\ZBT t l=0/\∃a cap ai ci bH,∃ws:List ((Nat×ScS)×Nat),r=.tuple ⟨[.slice a (ws.map Prod.fst).length cap,.slice ai (ws.map Prod.snd).length ci,i64 0]⟩/\ws.map (fun w=>(w.1.2,w.2))=canS t v l/\ZBl ptrZ h' a cap (ws.map Prod.fst)/\ZBz h' ai (ws.map fun w=>(w.2:Int))/\ZCg h' bH t (ws.map Prod.fst)/\ZCu h' bH t/\(ws.map fun w=>w.1.1).Nodup/\ws.length<=40/\(∀w∈ws,ZAQ t w.1.2=0)/\∀b o sp,a=some ⟨b,o,sp⟩->h.nx<=b))
set_option maxHeartbeats 4000000 in
theorem ZE8 {tc:List Value}{t:ScT}{v:Int}{l:List ScS}{al:Option Addr}{cl:Nat}{h:Heap}(ht:ZBX h tc t)(hT:t.Fit)(hv:I64 v)(hl:ZAN 6 ScSR h al l)(hlF:∀s∈l,s.Fit)(hL:Len l):Sv Tryz.prog 108 [.agg ⟨tc⟩,i64 v,.slice al l.length cl] h (RetP (CanR t v l h)):=by
 have ht0:=ht;obtain⟨xl,cxl,at',ct,a1,c1,a2,c2,a3,c3,a4,c4,a5,c5,a6,c6,rfl,-⟩:=ht;refine ZAy fun hw=>?_;refine ZAH Tryz.func108 rfl (by rw[Tryz.ntmps108];rfl) ?_;show Wc Tryz.prog ⟨108,68,none⟩ _ _ _ _ _;refine zy ?_;refine ZAa rfl rfl rfl fun h1 hE1 hW1 hg1 hn1=>?_;generalize h.nx=b1 at *;refine zy ?_;refine ZAq rfl rfl rfl rfl rfl Bod.h rfl rfl (ZRo (ht0.ext hE1) hT) ?_;rintro v2 h2 ⟨hE2,⟨he,rfl⟩|⟨he,bH,rfl,hH⟩⟩
 ·have e:ZA4 t v l=ZCU t:=by unfold ZA4;rw[if_pos he]
  refine zy ?_;refine ZAE rfl rfl rfl rfl (ZAb rfl rfl) (fun h3=>?_) (fun h3=>?_)
  ·refine zy ?_
   exact ZAC (ZAD rfl ⟨hE1.trans hE2,.inl ⟨by rw[e];exact he,by rw[e];rfl⟩⟩)
  ·exact absurd (Decidable.not_not.1 h3) he
 have hO:=ZOM he;have hg12:=hE2.get hg1;replace hE2:=hE1.trans hE2;have hvl:t.venues.length<1000000:=Nat.lt_of_le_of_lt hO.venues1.2 (by decide);clear hg1 hn1 hW1 hE1;refine zy ?_;refine ZAE rfl rfl rfl rfl (ZAb rfl rfl) (fun h3=>?_) (fun h3=>?_)
 ·exact absurd rfl h3
 clear h3;refine zy ?_;refine ZAP rfl rfl rfl rfl rfl Bod.h rfl rfl (ZA9 _ _ _ _) (fun h4=>?_) (fun h4=>?_)
 ·replace h4:=of_decide_eq_true h4
  have e:ZA4 t v l=4:=by unfold ZA4;rw[if_neg (fun q=>q he),if_pos h4]
  refine zy ?_;exact ZAC (ZAD rfl ⟨hE2,.inl ⟨by rw[e];decide,by rw[e];rfl⟩⟩)
 replace h4:=of_decide_eq_false h4;have e:ZA4 t v l=ZBT t l:=by unfold ZA4;rw[if_neg (fun q=>q he),if_neg h4]
 refine zy ?_;refine ZAq rfl rfl rfl rfl rfl Bod.h rfl rfl (ZSA hH hO (ZAN.ext (R:=ScSR) (fun x _=>x) hl hE2) hlF hL) ?_;rintro v3 h3 ⟨hE3,⟨he2,rfl⟩|⟨he2,va,zs,rfl,hzs,hO3,hnd⟩⟩
 ·refine zy ?_
  refine ZAE rfl rfl rfl rfl (ZAb rfl rfl) (fun h5=>?_) (fun h5=>?_)
  ·refine zy ?_
   exact ZAC (ZAD rfl ⟨hE2.trans hE3,.inl ⟨by rw[e];exact he2,by rw[e];rfl⟩⟩)
  ·exact absurd (Decidable.not_not.1 h5) he2
 obtain⟨hl40,hsh⟩:=ZHC he2;replace hH:=hH.ext hE3;have hE:=hE2.trans hE3;have hSP:ZCg h3 bH t zs:=hO3.p2;obtain⟨aZ,rfl,-,hZ⟩:=ZAG.list (enc:=ptrZ) (show ZAG h2 h3 va 152 1 _ _ from hO3.p1);clear hO3;refine zy ?_;refine ZAE rfl rfl rfl rfl (ZAb rfl rfl) (fun h5=>?_) (fun h5=>?_)
 ·exact absurd rfl h5
 clear h5;refine ZCM fun hw3=>?_;have hzl:zs.length=l.length:=by rw[<-hzs,List.length_map]
 refine zy ?_
 refine ZAT (fun (s:Nat×Value×Value×List ((Nat×ScS)×Nat)) m ds h'=>ds=[]/\s.1<=zs.length/\Ext h3 h'/\Own h3 h' [slI h3 s.2.1 152 1 ((s.2.2.2.map Prod.fst).map ptrZ) s.2.2.2.length,slI h3 s.2.2.1 3 1 ((s.2.2.2.map fun w=>(w.2:Int)).map i64) s.2.2.2.length]/\s.2.2.2.map (fun w=>(w.1.2,w.2))=canS t v (l.take s.1)/\(s.2.2.2.map Prod.fst).Sublist (zs.take s.1) ∧
   AllK m [(1,i64 v),(6,s.2.1),(7,s.2.2.1),(38,.slice aZ zs.length zs.length),(39,i64 zs.length),(40,i64 s.1)]) (fun s=>zs.length-s.1) (0,.slice none 0 0,.slice none 0 0,[]) ?_ ?_
 ·exact⟨rfl,Nat.zero_le _,Ext.refl _,((Own.nil h3 h3).nilSl 3 1).nilSl 152 1,rfl,List.nil_sublist _,rfl,rfl,rfl,rfl,rfl,rfl,trivial⟩
 rintro⟨k,vc,vi,ws⟩ m ds h4' ⟨rfl,hk,hE4,hO4,hws,hsub,hall⟩;simp only at hk hO4 hws hsub hall;refine ZDG fun hw4=>?_;have hwl:ws.length<=l.length:=by
  have h6:=congrArg List.length hws;rw[List.length_map] at h6;have h7:=ZFM (t:=t) (v:=v) (l:=l.take k);rw[List.length_take] at h7;omega
 refine Wc.le ?_ (Le.kn hall);refine zy ?_;refine ZAE rfl rfl rfl rfl (ZAW rfl rfl) (fun h5=>?_) (fun h5=>?_);rotate_left
 ·have hk2:k=zs.length:=by omega
  subst hk2;rw[List.take_length] at hsub;rw[hzl,List.take_length] at hws;obtain⟨a,e1,hLa,hab⟩:=ZAG.leftAt (enc:=ptrZ) (show ZAG h3 h4' vc 152 1 _ _ from hO4.p1);obtain⟨ai,e2,-,hIn⟩:=ZAG.list (enc:=i64) (show ZAG h3 h4' vi 3 1 _ _ from hO4.p2);subst e1;subst e2;have hzm:∀z∈ws.map Prod.fst,z∈zs:=fun z hz=>hsub.subset hz;refine zy ?_;refine ZAC (ZAD rfl ⟨hE.trans hE4,.inr ⟨by rw[e];exact he2,hO,he2,a,_,ai,(ws.map fun w=>(w.2:Int)).length,bH,ws,?_,hws,hLa,hIn,fun z hz=>hE4.get (hSP z (hzm z hz)),hH.ext hE4,?_,by omega,fun w hw=>hsh _ ?_,fun b o sp e=>Nat.le_trans hE.2.1 (hab b o sp e)⟩⟩)
  ·rw[List.length_map,List.length_map,List.length_map]
   rfl
  ·have h8:(ws.map fun w=>w.1.1)=(ws.map Prod.fst).map Prod.fst:=by rw[List.map_map];rfl
   rw[h8];exact (hsub.map Prod.fst).nodup hnd
  ·rw[<-hzs]
   exact List.mem_map_of_mem (hzm _ (List.mem_map_of_mem hw))
 have hk':k<zs.length:=by simpa using h5
 have hkl:k<l.length:=by omega
 obtain⟨b,o,oa,rfl,hc⟩:=hZ k hk';have hzm:=List.getElem_mem hk';have hx0:ZAQ t zs[k].2=0:=hsh _ (by rw[<-hzs];exact List.mem_map_of_mem hzm);have hsx:l[k]=zs[k].2:=by subst hzs;rw[List.getElem_map]
 have hstep:=ZHe (t:=t) (v:=v) hkl;rw[hsx] at hstep;have hsub1:(ws.map Prod.fst).Sublist (zs.take (k+1)):=hsub.trans (List.take_sublist_take_left (Nat.le_succ k));have hsub2:(ws.map Prod.fst++[zs[k]]).Sublist (zs.take (k+1)):=by
  rw[List.take_add_one,List.getElem?_eq_getElem hk'];exact hsub.append (List.Sublist.refl _)
 replace hc:=hE4.cell hc;have hSx:=hSP _ hzm;generalize zs[k]=x at *;have hSx4:=hSx.ext hE4;have hwhy:=ZR8 hSx4 (hH.ext hE4) hO hx0;have hSx4':=hSx4;unfold ZBU ZGr at hSx4';refine zy ?_;refine ZAI rfl rfl rfl rfl (A_ix Und.h Tsz.h rfl rfl) ?_;refine zy ?_
 by_cases e1:x.2.venue=v
 rotate_left
 ·rw[if_neg (fun q=>e1 q.1),List.append_nil] at hstep
  refine ZAI rfl rfl rfl rfl (A_ff e1 (ZAX rfl rfl)) ?_;refine zy ?_;exact⟨(k+1,vc,vi,ws),(by show zs.length-(k+1)<zs.length-k;omega),rfl,hk',hE4,hO4,(by simp only[hstep];exact hws),hsub1,rfl,rfl,rfl,rfl,rfl,rfl,trivial⟩
 refine ZAI rfl rfl rfl rfl (A_tt e1 (ZAX rfl rfl)) ?_;refine zy ?_;refine ZAS rfl rfl rfl rfl rfl Bod.h rfl rfl (hwhy) fun h6 hE6=>?_
 by_cases e2:whyS t x.2=0
 rotate_left
 ·rw[if_neg (fun q=>e2 q.2),List.append_nil] at hstep
  refine ZAI rfl rfl rfl rfl (A_ff e2 (ZAX rfl rfl)) ?_;refine zy ?_;exact⟨(k+1,vc,vi,ws),(by show zs.length-(k+1)<zs.length-k;omega),rfl,hk',hE4.trans hE6,hO4.ext hE6,(by simp only[hstep];exact hws),hsub1,rfl,rfl,rfl,rfl,rfl,rfl,trivial⟩
 rw[if_pos ⟨e1,e2⟩] at hstep;refine ZAI rfl rfl rfl rfl (A_tt e2 (ZAX rfl rfl)) ?_;replace hO4:=hO4.ext hE6;replace hE4:=hE4.trans hE6;have hwl':(ws++[(x,k)]).length=ws.length+1:=by simp
 have hwm:((ws++[(x,k)]).map Prod.fst).map ptrZ=(ws.map Prod.fst).map ptrZ++[ptrZ x]:=by simp
 have hwi:((ws++[(x,k)]).map fun w=>(w.2:Int)).map i64=(ws.map fun w=>(w.2:Int)).map i64++[i64 (k:Int)]:=by simp
 refine zy ?_;refine ZC8 rfl rfl Und.h Tsz.h Zr.h rfl rfl rfl rfl rfl fun h7 hE7 hW7 hg7 hn7=>?_;refine ZBV (k:=1) (l:=[ptrZ x]) hw3 (hE4.trans hE7) rfl rfl rfl rfl rfl Und.h inferInstance rfl rfl (hO4.ext hE7) (ZBC Und.h (by intro k;simp) (ZAd hg7 rfl)) rfl rfl (by omega) (by omega) fun v8 h8 hW8 hO8 hE8=>?_;rw[<-hwl',<-hwm] at hO8;refine zy ?_;refine ZC8 rfl rfl Und.h Tsz.h Zr.h rfl rfl rfl rfl rfl fun h9 hE9 hW9 hg9 hn9=>?_;refine ZBV (k:=1) (l:=[i64 (k:Int)]) hw3 (hE8.trans hE9) rfl rfl rfl rfl rfl Und.h inferInstance rfl rfl ((hO8.ext hE9).up2) (ZBC Und.h (by intro k;simp) (ZAd hg9 rfl)) rfl rfl (by omega) (by omega) fun v10 h10 hW10 hO10 hE10=>?_
 rw[<-hwl',<-hwi] at hO10;refine zy ?_;refine⟨(k+1,v8,v10,ws++[(x,k)]),(by show zs.length-(k+1)<zs.length-k;omega),rfl,hk',hE10,hO10.up2,?_,?_,rfl,rfl,rfl,rfl,rfl,rfl,trivial⟩
 ·simp only[hstep,List.map_append,hws]
  rfl
 ·simp only[List.map_append]
  exact hsub2
theorem ZLH {α:Type}{p:α->Bool}{l:List α}(h:ZBY p l = -1):∀x∈l,p x=false:=by
 unfold ZBY at h
 cases hq:l.findIdx? p with
 | none=>exact List.findIdx?_eq_none_iff.1 hq
 | some k=>rw[hq] at h;simp only at h;omega
theorem ZLP {α:Type}{p:α->Bool}{l:List α}(h:ZBY p l ≠ -1):∃k,∃hk:k<l.length,ZBY p l=(k:Int)/\p l[k]=true/\∀j (hj:j<l.length),j<k->p l[j]=false:=by
 unfold ZBY at h ⊢
 cases hq:l.findIdx? p with
 | none=>rw[hq] at h;exact absurd rfl h
 | some k =>
  obtain⟨h1,h2,h3⟩:=List.findIdx?_eq_some_iff_getElem.1 hq;exact⟨k,h1,rfl,h2,fun j hj hlt=>by simpa using h3 j hlt⟩
def ZEW {α:Type}(p:α->Bool)(l:List α)(j:Nat):List α:=(l.take j).filter fun x=>!p x
theorem ZHu {α:Type}{p:α->Bool}{l:List α}{j:Nat}(hj:j<l.length):ZEW p l (j+1)=if p l[j]=true then ZEW p l j else ZEW p l j++[l[j]]:=by
 have htk:l.take (j+1)=l.take j++[l[j]]:=by rw[List.take_add_one,List.getElem?_eq_getElem hj];rfl
 unfold ZEW;rw[htk,List.filter_append]
 cases hq:p l[j] with
 | true=>simp[hq]
 | false=>simp[hq]
theorem ZKt {α:Type}{p:α->Bool}{l:List α}{k:Nat}(hk:k<=l.length)(h:∀j (hj:j<l.length),j<k->p l[j]=false):ZEW p l k=l.take k:=by
 unfold ZEW;rw[List.filter_eq_self];intro x hx;obtain⟨j,hj,rfl⟩:=List.getElem_of_mem hx;rw[List.length_take] at hj;rw[List.getElem_take,h j (by omega) (by omega)]
 rfl
theorem ZNN (n:Nat):allOne (rep n [Value.pointer none])=true:=by
 induction n with
 | zero=>rfl
 | succ n ih =>
  rw[ZEE]
  show allOne (Value.pointer none::rep n [Value.pointer none])=true
  simp only[allOne,List.all_cons] at ih ⊢;rw[ih];rfl
def DelR (b:Nat)(sp:Option Nat)(el:TypeId)(op:Bool)(l:List (Nat×ScS))(h:Heap)(r:Value)(h':Heap):Prop:=∃cap vs,r=.slice (some ⟨b,0,sp⟩) l.length cap/\l.length<=cap/\Exb (fun c=>c=b) h h'/\h'.get b=some (.cells (l.map ptrZ++vs) el op)
set_option maxHeartbeats 4000000 in
theorem ZNS {b:Nat}{sp:Option Nat}{el:TypeId}{op:Bool}{l:List (Nat×ScS)}{h:Heap}{g:FuncId}{first capv:List Value}{p:Nat×ScS->Bool}(hg:h.get b=some (.cells (l.map ptrZ) el op))(hsp:sp=none\/sp=some 1)(hbd:ZAm Tryz.prog g=true)
  (hp:∀h1,Exb (fun c=>c=b) h h1->∀x∈l,Sv Tryz.prog g (first++([ptrZ x]++capv)) h1 (RetP fun v h'=>v=.bool (p x)/\h'=h1)) (hlen:l.length<=1000000) :
  Sv Tryz.prog 110 [.slice (some ⟨b,0,sp⟩) l.length l.length,.func (.func g) ⟨first⟩ ⟨capv⟩] h (RetP (DelR b sp el op (l.filter fun x=>!p x) h)):=by
 have hI:ZBL ptrZ h (some ⟨b,0,sp⟩) l:=fun i hi=>⟨b,0,sp,rfl,ZAk hg (by rw[ZA7,Nat.zero_add,Nat.mul_one,List.getElem?_map,List.getElem?_eq_getElem hi];rfl)⟩;refine ZAH Tryz.func110 rfl (by rw[Tryz.ntmps110];rfl) ?_;show Wc Tryz.prog ⟨110,42,none⟩ _ _ _ _ _;refine zy ?_;refine ZAS rfl rfl rfl rfl rfl Bod.h rfl rfl (ZJH (p:=p) hI hbd (fun h1 hE x hx=>Sv.grows (hp h1 (Exb.of hE) x hx)) (by omega)) fun h1 hE1=>?_;have hg1:=hE1.get hg;have hX1:Exb (fun c=>c=b) h h1:=Exb.of hE1;clear hI
 by_cases hf:ZBY p l = -1
 ·have hno:=ZLH hf
  have hfl:(l.filter fun x=>!p x)=l:=List.filter_eq_self.2 fun x hx=>by rw[hno x hx];rfl
  rw[hf];refine zy ?_;refine ZAI rfl rfl rfl rfl (A_tt rfl (ZAX rfl rfl)) ?_;refine zy ?_;exact ZAC (ZAD rfl ⟨l.length,[],by rw[hfl];rfl,by rw[hfl];exact Nat.le_refl _,hX1,by rw[hfl,List.append_nil];exact hg1⟩)
 obtain⟨k0,hk0,ef,hp0,hno⟩:=ZLP hf;rw[ef];have hne:¬((k0:Int) = -1):=by omega
 have hkf0:ZEW p l (k0+1)=l.take k0:=by rw[ZHu hk0,if_pos hp0,ZKt (by omega) hno]
 have hkl0:(ZEW p l (k0+1)).length=k0:=by rw[hkf0,List.length_take];omega
 refine zy ?_;refine ZAI rfl rfl rfl rfl (A_ff hne (ZAX rfl rfl)) ?_;refine zy ?_
 refine ZAT (fun (j:Nat) m ds h'=>ds=[]/\j<=l.length/\Exb (fun c=>c=b) h h'/\(∃cs:List Value,h'.get b=some (.cells cs el op)/\cs.length=l.length/\cs.take (ZEW p l j).length=(ZEW p l j).map ptrZ/\cs.drop j=(l.map ptrZ).drop j)/\(ZEW p l j).length<j ∧
   AllK m [(0,.slice (some ⟨b,0,sp⟩) l.length l.length),(1,.func (.func g) ⟨first⟩ ⟨capv⟩),(5,i64 ((ZEW p l j).length:Nat)),(6,i64 (j:Nat))]) (fun j=>l.length-j) (k0+1) ?_ ?_
 ·refine⟨rfl,hk0,hX1,⟨_,hg1,by rw[List.length_map],?_,rfl⟩,by omega,rfl,rfl,by rw[hkl0];rfl,rfl,trivial⟩
  rw[hkl0,hkf0,List.map_take]
 rintro j m ds h2 ⟨rfl,hj,hX2,⟨cs,hg2,hcl,hct,hcd⟩,hlt,hall⟩;refine Wc.le ?_ (Le.kn hall);refine zy ?_;refine ZAE rfl rfl rfl rfl (ZAW rfl rfl) (fun hjl=>?_) (fun hjl=>?_)
 ·have hj':j<l.length:=by omega
  have hlc:=ZHu (p:=p) hj';have hcell:cs[j]?=some (ptrZ l[j]):=by
   have e1:(cs.drop j)[0]?=((l.map ptrZ).drop j)[0]?:=by rw[hcd]
   rw[List.getElem?_drop,List.getElem?_drop,Nat.add_zero,List.getElem?_map,List.getElem?_eq_getElem hj'] at e1;exact e1
  have hcell2:ZAc h2 b (0+j*1)=some (ptrZ l[j]):=ZAk hg2 (by rw[ZA7,Nat.zero_add,Nat.mul_one,hcell]);have hpx:=hp h2 hX2 _ (List.getElem_mem hj');have hdr:(l.map ptrZ).drop (j+1)=cs.drop (j+1):=by
   have e1:(cs.drop j).drop 1=((l.map ptrZ).drop j).drop 1:=by rw[hcd]
   rw[List.drop_drop,List.drop_drop] at e1;exact e1.symm
  generalize l[j]=x at *;generalize hkq:(ZEW p l j).length=q at *;refine zy ?_;refine ZAI rfl rfl rfl rfl (A_ix Und.h Tsz.h rfl rfl) ?_;refine zy ?_
  cases hb:p x with
  | true =>
   rw[hb] at hpx;refine ZA6 rfl rfl rfl rfl rfl hbd rfl rfl hpx ?_;rw[if_pos hb] at hlc;refine zy ?_;exact⟨j+1,(by show l.length-(j+1)<l.length-j;omega),rfl,hj',hX2,⟨cs,hg2,hcl,by rw[hlc,hkq];exact hct,hdr.symm⟩,(by rw[hlc,hkq];omega),rfl,rfl,(by rw[hlc,hkq];rfl),rfl,trivial⟩
  | false =>
   rw[hb] at hpx;refine ZA6 rfl rfl rfl rfl rfl hbd rfl rfl hpx ?_;rw[if_neg (by rw[hb];simp)] at hlc;have hql:(ZEW p l (j+1)).length=q+1:=by rw[hlc,List.length_append,hkq];rfl
   have hqlt:q<l.length:=by omega
   refine zy ?_;refine ZAI rfl rfl rfl rfl (A_ix Und.h Tsz.h rfl rfl) ?_;refine zy ?_;refine ZBF rfl Tsz.h rfl rfl hg2 rfl rfl (ZEw (by rw[hcl,Nat.zero_add,Nat.mul_one];exact hqlt)) fun h4 hU=>?_;refine zy ?_;refine⟨j+1,(by show l.length-(j+1)<l.length-j;omega),rfl,hj',hX2.upd hU rfl,⟨_,hU.at',by rw[List.length_set];exact hcl,?_,?_⟩,by omega,rfl,rfl,(by rw[hql];rfl),rfl,trivial⟩
   ·rw[hql,hlc,List.map_append,<-hct,Nat.zero_add,Nat.mul_one]
    rw[List.take_add_one,List.take_set_of_le (Nat.le_refl _),List.getElem?_set_self (by omega)]
    rfl
   ·rw[hdr,Nat.zero_add,Nat.mul_one,List.drop_set_of_lt (by omega)]
 have hk2:j=l.length:=by omega
 subst hk2;have hfl:ZEW p l l.length=l.filter fun x=>!p x:=by unfold ZEW;rw[List.take_length]
 rw[hfl] at hct hlt;generalize hkq:(l.filter fun x=>!p x).length=q at *;obtain⟨a',c',hfr,hA⟩:=ZLW (P:=Tryz.prog) (t:=177) (el:=152) (b:=b) (n:=l.length) (k:=q) (sp:=sp) (kj:=.i64) Und.h Tsz.h hsp (by omega);obtain⟨o1,e1,e2⟩:=hfr hlt;rw[e2] at e1;subst e1;obtain⟨c2,hc2,hB⟩:=ZSS (P:=Tryz.prog) (t:=177) (el:=152) (b:=b) (n:=l.length) (k:=q) (sp:=sp) (kj:=.i64) Und.h Tsz.h hsp (by omega);rw[hfl,hkq];refine zy ?_;refine ZAI rfl rfl rfl rfl (hA rfl rfl) ?_;refine zy ?_
 refine ZKO rfl rfl rfl (ZMV rfl rfl rfl rfl (ZMe (z:=.pointer none) Und.h Zr.h rfl (ZNN _) (by rcases hsp with rfl|rfl <;> simp) (by omega) hg2 (ZEI (by rw[ZDQ,hcl];show q+(l.length-q)*1<=l.length;omega)))) ?_
 refine zy ?_;refine ZAI rfl rfl rfl rfl (hB rfl rfl) ?_;refine zy ?_;exact ZAC (ZAD rfl ⟨c2,_,by rw[hkq];rfl,by omega,hX2.set _ rfl,by rw[Heap.get_set_self,hct]⟩)
end Go.Dw
namespace Go.Dw
open Go Go.Dx Go.Proofs Go.Sort
set_option maxRecDepth 100000
def ZEh (l:List Int):List Int:=l.mergeSort fun a b=>decide (a<=b)
theorem ZIL (l:List Int):(ZEh l).Perm l:=List.mergeSort_perm _ _
theorem ZQN (l:List Int):(ZEh l).Pairwise (·<=·):=(List.pairwise_mergeSort (fun a b c h1 h2=>decide_eq_true (by have:=of_decide_eq_true h1;have:=of_decide_eq_true h2;omega)) (fun a b=>by simp only[Bool.or_eq_true,decide_eq_true_eq];omega) l).imp fun h=>of_decide_eq_true h
theorem ZKD (l:List Int):(ZEh l).length=l.length:=(ZIL l).length_eq
theorem ZGp:∀l:List Int,ZBq (l.map i64)=true
 | []=>rfl
 | _::l=>ZGp l
theorem ZLQ {h0 h:Heap}{v:Value}{zs:List Int}{n:Nat}(hF:ZAG h0 h v 3 1 (zs.map i64) n)(hn:n<1000000) :
  Sv Tryz.prog 159 [v] h (RetP fun r h'=>r=.tuple ⟨[]⟩/\ZAG h0 h' v 3 1 ((ZEh zs).map i64) n/\Exb (fun c=>ZBN v=some c) h h'):=by
 refine⟨fun ι w args' hr hv=>?_⟩;obtain⟨l',rfl,hv⟩:=hv.arr
 cases hv with
 | cons hv1 hv2 =>
  cases hv2
  rcases hF.lies hr hv1 (by decide) with ⟨rfl,rfl,hz,rfl⟩|⟨b,bi,op,cap,c,hb,hg,hi,rfl,hc,hle,hV,hl,hnew⟩
  ·have:zs=[]:=List.map_eq_nil_iff.1 hz
   subst this;refine (AnyM.slices_Sort_int_none ZOf none 0 w).mono ?_;rintro e w' ⟨rfl,rfl⟩;exact⟨.ret (.tuple ⟨[]⟩) h,⟨rfl,by rw[show ZEh []=[] from List.mergeSort_nil];exact ZAG.nil _ _ _ _,Exb.refl _ _⟩,ZIQ hr (VR.of_flat ι rfl) ⟨Nat.le_refl _,fun _ _=>rfl,rfl,rfl⟩⟩
  ·have hlz:zs.length=n:=by rw[List.length_map] at hl;omega
   have hcz:=hV.flat_eq (ZGp zs);rw[List.length_map] at hcz hle;have hH:Holds (Value.int .i64) w bi.blk 0 zs.toArray:=ZMA (enc:=i64) hc (by simpa using hcz);obtain⟨hbs,-⟩:=Array.getElem?_eq_some_iff.1 hc;have hK:=AnyM.slices_Sort_int ZOf bi.blk 0 cap zs w hH hbs (by omega);rw[hlz] at hK;refine hK.mono ?_;rintro e w' ⟨rfl,k,os,rfl⟩;have hsl:(ZEh zs).length=zs.length:=ZKD zs;have hts:(ZEh zs).toArray.size<=c.size:=by simp[hsl];omega
   have hP:=ZJQ (h:=h) (vs2:=(ZEh zs).map i64) (c2:=putCells i64 0 (ZEh zs).toArray c) (r:=.tuple ⟨[]⟩) (r':=.tuple ⟨[]⟩) hr hg hi hc ZFU (by simp[hsl]) (by
    have:=ZE2 (enc:=i64) hts;rw[List.length_map];simp only[List.size_toArray] at this;rw[this];exact VRL.of_flat ι (ZGp _)) (VR.of_flat ι rfl) (ZIu (n:=k) (os:=os) hc).1 (ZIu hc).2 rfl rfl
   refine⟨.ret (.tuple ⟨[]⟩) (h.set b (.cells ((ZEh zs).map i64) 3 op)),⟨rfl,hnew _ _ op (by simp[hsl]) (Upd.mk' h b _).at',?_⟩,hP⟩;refine (Exb.ofUpd (Upd.mk' h b _)).mono fun x hx=>by rw[hx];exact hb
theorem ZLk (n:Nat):allOne (rep n [i64 0])=true:=by
 induction n with
 | zero=>rfl
 | succ n ih =>
  rw[ZEE]
  show allOne (i64 0::rep n [i64 0])=true
  simp only[allOne,List.all_cons] at ih ⊢;rw[ih];rfl
theorem ZJq {cs ds:List Value}{j i:Nat}(h:cs.drop j=ds.drop j)(hi:j<=i):cs[i]?=ds[i]?:=by
 have e1:(cs.drop j)[i-j]?=(ds.drop j)[i-j]?:=by rw[h]
 rw[List.getElem?_drop,List.getElem?_drop,show j+(i-j)=i by omega] at e1;exact e1
theorem ZHS {S:List Int}{i:Nat}(hi:i<S.length):S.getD i 0=S[i]:=by rw[List.getD_eq_getElem?_getD,List.getElem?_eq_getElem hi];rfl
set_option maxHeartbeats 4000000 in
theorem ZMg {h0 h:Heap}{v:Value}{S:List Int}(hF:ZAG h0 h v 3 1 (S.map i64) S.length)(hlen:S.length<=1000000)(hw0:WF h0)(hE0:Ext h0 h) :
  Sv Tryz.prog 160 [v] h (RetP fun r h'=>Ext h0 h'/\Exb (fun c=>ZBN v=some c) h h'/\∃a cap,r=.slice a (cmpK S S.length).length cap/\ZBz h' a (cmpK S S.length)/\∀b o sp,a=some ⟨b,o,sp⟩->ZBN v=some b):=by
 obtain⟨a0,e0,-,hI0⟩:=ZAG.list (enc:=i64) hF
 by_cases hS2:S.length<2
 ·have hall:cmpK S S.length=S:=by
   rw[ZJG (Nat.le_refl _) fun i hi=>decide_eq_true (Or.inl (by omega)),List.take_length]
  rw[hall];subst e0;refine ZAH Tryz.func160 rfl (by rw[Tryz.ntmps160];rfl) ?_;show Wc Tryz.prog ⟨160,61,none⟩ _ _ _ _ _;refine zy ?_;refine ZAI rfl rfl rfl rfl (A_tt (show (S.length:Int)<2 by omega) (ZAW rfl rfl)) ?_;refine zy ?_;exact ZAC (ZAD rfl ⟨hE0,Exb.refl _ _,_,_,rfl,hI0,fun b o sp e=>by rw[e];rfl⟩)
 rcases hF with ⟨-,-,hz⟩|⟨b,sp,op,rfl,hg,-,hb0,hsp⟩
 ·omega
 clear e0 hI0;have hI:ZBL i64 h (some ⟨b,0,sp⟩) S:=fun i hi=>⟨b,0,sp,rfl,ZAk hg (by rw[ZA7,Nat.zero_add,Nat.mul_one,List.getElem?_map,List.getElem?_eq_getElem hi];rfl)⟩;refine ZAH Tryz.func160 rfl (by rw[Tryz.ntmps160];rfl) ?_;show Wc Tryz.prog ⟨160,61,none⟩ _ _ _ _ _;refine zy ?_;refine ZAI rfl rfl rfl rfl (A_ff (show ¬(S.length:Int)<2 by omega) (ZAW rfl rfl)) ?_;refine zy ?_;refine ZAT (fun (j:Nat) m ds h'=>ds=[]/\1<=j/\j<=S.length/\h'=h/\(∀i,i<j->ZHB S i=true)/\AllK m [(0,.slice (some ⟨b,0,sp⟩) S.length S.length),(3,i64 (j:Nat))]) (fun j=>S.length-j) 1 ?_ ?_
 ·exact⟨rfl,Nat.le_refl _,by omega,rfl,(fun i hi=>decide_eq_true (Or.inl (by omega))),rfl,rfl,trivial⟩
 rintro j m ds h1 ⟨rfl,hj1,hj,e1,hnew,hall⟩;subst h1;refine Wc.le ?_ (Le.kn hall);refine zy ?_;refine ZAE rfl rfl rfl rfl (ZAW rfl rfl) (fun hjl=>?_) (fun hjl=>?_);rotate_left
 ·have hk2:j=S.length:=by omega
  subst hk2;have hall:cmpK S S.length=S:=by rw[ZJG (Nat.le_refl _) hnew,List.take_length]
  rw[hall];refine zy ?_;exact ZAC (ZAD rfl ⟨hE0,Exb.refl _ _,_,_,rfl,hI,fun b1 o1 s1 e=>by cases e;rfl⟩)
 have hj':j<S.length:=by omega
 obtain⟨k,rfl⟩:∃k,j=k+1:=⟨j-1,by omega⟩;have hk':k<S.length:=by omega
 have hc1:ZAc h b (0+(k+1)*1)=some (i64 S[k+1]):=by
  obtain⟨b1,o1,s1,e,hc⟩:=hI (k+1) hj';cases e;exact hc
 have hc2:ZAc h b (0+k*1)=some (i64 S[k]):=by
  obtain⟨b1,o1,s1,e,hc⟩:=hI k hk';cases e;exact hc
 have hnj:ZHB S (k+1)=decide (¬S[k+1]=S[k]):=by
  unfold ZHB;rw[ZHS hj',show k+1-1=k from rfl,ZHS hk'];simp
 refine zy ?_
 by_cases heq:S[k+1]=S[k]
 rotate_left
 ·have hnj2:ZHB S (k+1)=true:=by rw[hnj];exact decide_eq_true heq
  generalize S[k+1]=x at *;generalize S[k]=y at *;refine ZAJ hmix [0,0,3,7,0,0,32,112,240,511] [0,1,2,3,4,5,6,7,8,9] none [] (by kernel_rfl) (by kernel_rfl) ?_;refine z_m ?_;refine z_m ?_;refine ZAB rfl rfl rfl rfl rfl (fun _=>A_ix (k:=k+1) Und.h Tsz.h rfl rfl) ?_;refine z_l ?_;refine z_m ?_;refine z_m ?_;refine ZAB rfl rfl rfl rfl rfl (fun _=>ZE7 rfl rfl (by omega) (by omega)) ?_;refine ZAB rfl rfl rfl rfl rfl (fun _=>ZAK (k:=k) Und.h Tsz.h rfl rfl (by omega) (by omega)) ?_;refine z_l ?_;refine ZAB rfl rfl rfl rfl rfl (fun _=>A_ff heq (ZAX rfl rfl)) ?_;refine ZAM (ZAA rfl) nb' ?_;refine zy ?_
  refine⟨k+1+1,(by show S.length-(k+1+1)<S.length-(k+1);omega),rfl,by omega,by omega,rfl,fun i hi=>?_,rfl,rfl,trivial⟩
  rcases Nat.lt_or_ge i (k+1) with q|q
  ·exact hnew i q
  ·have:i=k+1:=by omega
   rw[this];exact hnj2
 have hnj2:ZHB S (k+1)=false:=by rw[hnj];exact decide_eq_false (fun q=>q heq)
 obtain⟨a2,c2,hfr,hA⟩:=ZLW (P:=Tryz.prog) (t:=52) (el:=3) (b:=b) (n:=S.length) (k:=k+1) (sp:=sp) (kj:=.i64) Und.h Tsz.h hsp (by omega);obtain⟨o1,e1,e2⟩:=hfr hj';rw[e2] at e1;subst e1;have hcm0:cmpK S (k+1)=S.take (k+1):=ZJG (by omega) hnew;have hcl0:(cmpK S (k+1+1)).length=k+1:=by rw[ZDO,if_neg (by rw[hnj2];simp),hcm0,List.length_take];omega
 generalize hx:S[k+1]=x at *;generalize hy:S[k]=y at *;refine ZAJ hmix [0,0,3,7,0,0,32,112,240,511] [0,1,2,3,4,5,6,7,8,9] none [] (by kernel_rfl) (by kernel_rfl) ?_;refine z_m ?_;refine z_m ?_;refine ZAB rfl rfl rfl rfl rfl (fun _=>A_ix (k:=k+1) Und.h Tsz.h rfl rfl) ?_;refine z_l ?_;refine z_m ?_;refine z_m ?_;refine ZAB rfl rfl rfl rfl rfl (fun _=>ZE7 rfl rfl (by omega) (by omega)) ?_;refine ZAB rfl rfl rfl rfl rfl (fun _=>ZAK (k:=k) Und.h Tsz.h rfl rfl (by omega) (by omega)) ?_;refine z_l ?_;refine ZAB rfl rfl rfl rfl rfl (fun _=>A_tt heq (ZAX rfl rfl)) ?_;refine ZAM (ZAA rfl) nb' ?_;refine zy ?_
 refine ZAI rfl rfl rfl rfl (hA rfl rfl) ?_;refine zy ?_
 refine ZAT (fun (i:Nat) m ds h'=>ds=[]/\1<=i/\i<=S.length-(k+1)/\Exb (fun c=>c=b) h h'/\(∃cs:List Value,h'.get b=some (.cells cs 3 op)/\cs.length=S.length/\cs.take (cmpK S (k+1+i)).length=(cmpK S (k+1+i)).map i64/\cs.drop (k+i)=(S.map i64).drop (k+i))/\(cmpK S (k+1+i)).length<=k+i ∧
   AllK m [(0,.slice (some ⟨b,0,sp⟩) S.length S.length),(3,i64 ((cmpK S (k+1+i)).length:Nat)),(4,.slice (some ⟨b,k+1,sp⟩) (S.length-(k+1)) c2),(5,i64 (i:Nat))]) (fun i=>S.length-i) 1 ?_ ?_
 ·refine⟨rfl,Nat.le_refl _,by omega,Exb.refl _ _,⟨_,hg,by rw[List.length_map],?_,rfl⟩,by omega,rfl,(by rw[hcl0];rfl),rfl,rfl,trivial⟩
  rw[hcl0,ZDO,if_neg (by rw[hnj2];simp),hcm0,List.map_take]
 rintro i m ds h2 ⟨rfl,hi1,hi,hX2,⟨cs,hg2,hcl,hct,hcd⟩,hql,hall⟩;refine Wc.le ?_ (Le.kn hall);refine zy ?_;refine ZAE rfl rfl rfl rfl (ZAW rfl rfl) (fun hil=>?_) (fun hil=>?_)
 ·have hi':k+1+i<S.length:=by omega
  obtain⟨i,rfl⟩:∃i',i=i'+1:=⟨i-1,by omega⟩;have hi2:k+1+i<S.length:=by omega
  have hstep:=ZDO S (k+1+(i+1));have hn2:ZHB S (k+1+(i+1))=decide (S[k+1+(i+1)]≠S[k+1+i]):=by
   unfold ZHB;rw[ZHS hi',show k+1+(i+1)-1=k+1+i by omega,ZHS hi2];simp
  rw[ZHS hi',hn2] at hstep
  have hd1:ZAc h2 b (k+1+(i+1)*1)=some (i64 S[k+1+(i+1)]):=ZAk hg2 (by
   rw[ZA7,Nat.mul_one,ZJq hcd (by omega),List.getElem?_map,List.getElem?_eq_getElem hi'];rfl)
  have hd2:ZAc h2 b (k+1+i*1)=some (i64 S[k+1+i]):=ZAk hg2 (by
   rw[ZA7,Nat.mul_one,ZJq hcd (by omega),List.getElem?_map,List.getElem?_eq_getElem hi2];rfl)
  have hdr:cs.drop (k+(i+1+1))=(S.map i64).drop (k+(i+1+1)):=by
   have e1:(cs.drop (k+(i+1))).drop 1=((S.map i64).drop (k+(i+1))).drop 1:=by rw[hcd]
   rw[List.drop_drop,List.drop_drop] at e1;exact e1
  have hkk:k+1+(i+1)+1=k+1+(i+1+1):=by omega
  rw[hkk] at hstep;generalize S[k+1+(i+1)]=x2 at *;generalize S[k+1+i]=y2 at *;generalize hqq:(cmpK S (k+1+(i+1))).length=q at *;refine zy ?_
  by_cases hne:x2=y2
  ·rw[if_neg (by simp[hne])] at hstep
   refine ZAJ hmix [0,0,3,7,0,0,32,112,240,511] [0,1,2,3,4,5,6,7,8,9] none [] (by kernel_rfl) (by kernel_rfl) ?_;refine z_m ?_;refine z_m ?_;refine ZAB rfl rfl rfl rfl rfl (fun _=>A_ix (k:=i+1) Und.h Tsz.h rfl rfl) ?_;refine z_l ?_;refine z_m ?_;refine z_m ?_;refine ZAB rfl rfl rfl rfl rfl (fun _=>ZE7 rfl rfl (by omega) (by omega)) ?_;refine ZAB rfl rfl rfl rfl rfl (fun _=>ZAK (k:=i) Und.h Tsz.h rfl rfl (by omega) (by omega)) ?_;refine z_l ?_;refine ZAB rfl rfl rfl rfl rfl (fun _=>A_ff (show ¬x2≠y2 from fun q=>q hne) (ZAb rfl rfl)) ?_;refine ZAM (ZAA rfl) nb' ?_;refine zy ?_;exact⟨i+1+1,(by show S.length-(i+1+1)<S.length-(i+1);omega),rfl,by omega,by omega,hX2,⟨cs,hg2,hcl,by rw[hstep,hqq];exact hct,hdr⟩,(by rw[hstep,hqq];omega),rfl,(by rw[hstep,hqq];rfl),rfl,rfl,trivial⟩
  ·rw[if_pos (by simp[hne])] at hstep
   have hql2:(cmpK S (k+1+(i+1+1))).length=q+1:=by rw[hstep,List.length_append,hqq];rfl
   have hqlt:q<S.length:=by omega
   refine ZAJ hmix [0,0,3,7,0,0,32,112,240,511] [0,1,2,3,4,5,6,7,8,9] none [] (by kernel_rfl) (by kernel_rfl) ?_;refine z_m ?_;refine z_m ?_;refine ZAB rfl rfl rfl rfl rfl (fun _=>A_ix (k:=i+1) Und.h Tsz.h rfl rfl) ?_;refine z_l ?_;refine z_m ?_;refine z_m ?_;refine ZAB rfl rfl rfl rfl rfl (fun _=>ZE7 rfl rfl (by omega) (by omega)) ?_;refine ZAB rfl rfl rfl rfl rfl (fun _=>ZAK (k:=i) Und.h Tsz.h rfl rfl (by omega) (by omega)) ?_;refine z_l ?_;refine ZAB rfl rfl rfl rfl rfl (fun _=>A_tt (show x2≠y2 from hne) (ZAb rfl rfl)) ?_;refine ZAM (ZAA rfl) nb' ?_;refine zy ?_;refine ZAI rfl rfl rfl rfl (A_ix Und.h Tsz.h rfl rfl) ?_
   refine zy ?_;refine ZAI rfl rfl rfl rfl (A_ix Und.h Tsz.h rfl rfl) ?_;refine zy ?_;refine ZBF rfl Tsz.h rfl rfl hg2 rfl rfl (ZEw (by rw[hcl,Nat.zero_add,Nat.mul_one];exact hqlt)) fun h4 hU=>?_;refine zy ?_;refine⟨i+1+1,(by show S.length-(i+1+1)<S.length-(i+1);omega),rfl,by omega,by omega,hX2.upd hU rfl,⟨_,hU.at',by rw[List.length_set];exact hcl,?_,?_⟩,by omega,rfl,(by rw[hql2];rfl),rfl,rfl,trivial⟩
   ·rw[hql2,hstep,List.map_append,<-hct,Nat.zero_add,Nat.mul_one]
    rw[List.take_add_one,List.take_set_of_le (Nat.le_refl _),List.getElem?_set_self (by omega)]
    rfl
   ·rw[<-hdr,Nat.zero_add,Nat.mul_one,List.drop_set_of_lt (by omega)]
 have hk2:k+1+i=S.length:=by omega
 rw[hk2] at hct;have hql3:(cmpK S S.length).length<S.length:=by rw[<-hk2];omega
 generalize hqq:(cmpK S S.length).length=q at *;obtain⟨a3,c3,hfr3,hA3⟩:=ZLW (P:=Tryz.prog) (t:=52) (el:=3) (b:=b) (n:=S.length) (k:=q) (sp:=sp) (kj:=.i64) Und.h Tsz.h hsp (by omega);obtain⟨o3,e1,e2⟩:=hfr3 hql3;rw[e2] at e1;subst e1;obtain⟨c4,hc4,hB⟩:=ZSS (P:=Tryz.prog) (t:=52) (el:=3) (b:=b) (n:=S.length) (k:=q) (sp:=sp) (kj:=.i64) Und.h Tsz.h hsp (by omega);rw[hk2,hqq];refine zy ?_;refine ZAI rfl rfl rfl rfl (hA3 rfl rfl) ?_;refine zy ?_
 refine ZKO rfl rfl rfl (ZMV rfl rfl rfl rfl (ZMe (z:=i64 0) Und.h Zr.h rfl (ZLk _) (by rcases hsp with rfl|rfl <;> simp) (by omega) hg2 (ZEI (by rw[ZDQ,hcl];show q+(S.length-q)*1<=S.length;omega)))) ?_
 refine zy ?_;refine ZAI rfl rfl rfl rfl (hB rfl rfl) ?_;refine zy ?_;have hX3:Exb (fun c=>c=b) h (h2.set b (.cells (cs.take q++(rep (S.length-q) (i64 0).cells.toList++cs.drop (q+(rep (S.length-q) (i64 0).cells.toList).length))) 3 op)):=hX2.set _ rfl;refine ZAC (ZAD rfl ⟨hX3.ext hE0 hw0 fun c hc=>by rw[hc];exact hb0,hX3.mono fun c hc=>by rw[hc];rfl,_,c4,rfl,fun i hi=>⟨b,0,sp,rfl,?_⟩,fun b1 o1 s1 e=>by cases e;rfl⟩);refine ZAk (Heap.get_set_self _ _ _) ?_;rw[ZA7,Nat.zero_add,Nat.mul_one,hct,List.getElem?_append_left (by rw[List.length_map];exact hi),List.getElem?_map,List.getElem?_eq_getElem hi]
 rfl
end Go.Dw
namespace Go.Dw
open Go Go.Dx Go.Proofs
set_option maxRecDepth 100000
theorem ZJh {α:Type}{enc:α->Value}{h h':Heap}{a:Option Addr}{l:List α}(hl:ZBL enc h a l)(hk:∀b o sp,a=some ⟨b,o,sp⟩->∀x,h.get b=some x->h'.get b=some x):ZBL enc h' a l:=fun i hi=>by
 obtain⟨b,o,oa,e,hc⟩:=hl i hi;obtain⟨x,hx⟩:=ZDg hc;exact⟨b,o,oa,e,by rw[ZEM ((hk b o oa e _ hx).trans hx.symm)];exact hc⟩
theorem ZFF.keep {h h':Heap}{c1 c2 c3 bm bH:Nat}{t:ScT}{a:Option Addr}{cap:Nat}{zs:List (Nat×ScS)}{memo:List (Int×Value)}(p:ZFF h c1 c2 c3 bm bH t a cap zs memo)(hk:∀c,c=c1\/c=c2\/c=c3\/c=bm->∀x,h.get c=some x->h'.get c=some x)(hl:ZBL ptrZ h' a zs)(hs:ZCg h' bH t zs):ZFF h' c1 c2 c3 bm bH t a cap zs memo :=
 ⟨hk _ (.inl rfl) _ p.g1,hk _ (.inr (.inl rfl)) _ p.g2,hk _ (.inr (.inr (.inl rfl))) _ p.g3,hl,hs,by
  obtain⟨es,cl,h1,h2⟩:=p.mp;exact⟨es,cl,hk _ (.inr (.inr (.inr rfl))) _ h1,h2⟩,p.ok⟩
theorem ZNn {a:Option Addr}{n c:Nat}{h:Heap}:Sv Tryz.prog 113 [.slice a n c] h (RetP fun r h'=>∃c1,r=.func (.func 158) ⟨[]⟩ ⟨[.pointer (some ⟨c1,0,none⟩)]⟩/\Ext h h'/\h.nx<=c1/\h'.get c1=some (.cells [.slice a n c] 177 false)):=by
 refine ZAH Tryz.func113 rfl (by rw[Tryz.ntmps113];rfl) ?_;show Wc Tryz.prog ⟨113,4,none⟩ _ _ _ _ _;refine zy ?_;refine ZAa rfl rfl rfl fun h1 hE1 hW1 hg1 hn1=>?_;refine zy ?_;exact ZAC (ZAD rfl ⟨_,rfl,hE1,Nat.le_refl _,hg1⟩)
set_option maxHeartbeats 4000000 in
theorem ZI7 {l c1 cap bH:Nat}{t:ScT}{a:Option Addr}{zs:List (Nat×ScS)}{h:Heap}(hO:ScOk t)(hz:∀z∈zs,ZAQ t z.2=0)(hlen:zs.length<=40)(hg1:h.get c1=some (.cells [.slice a zs.length cap] 177 false))(hLA:ZBl ptrZ h a cap zs)(hSP:ZCg h bH t zs)(S:Nat->Prop)(hS:∀b,S b->b<h.nx)(J:Nat->Nat->List (Int×Int)->Heap->Prop)
  (hJ0:∀h4 bm,Ext h h4->h.nx<=bm->bm<h4.nx->J bm h4.nx [] h4)
  (hJ:∀bm n4 out h',J bm n4 out h'->ZBl ptrZ h' a cap zs/\ZCg h' bH t zs)
  (hst:∀bm n4 out h1 h2,J bm n4 out h1->Exb (fun b=>b=bm) h1 h2->J bm n4 out h2)
  (hy:∀bm n4 out m p h',J bm n4 out h'->out.length<40->Yd Tryz.prog l [i64 m,i64 p] h' (fun v h''=>v=.bool true/\J bm n4 (out++[(m,p)]) h''/\Exb (fun c=>S c\/n4<=c) h' h'')) :
  Sv Tryz.prog 158 [.func (.yield l) ⟨[]⟩ ⟨[]⟩,.pointer (some ⟨c1,0,none⟩)] h (RetP fun _ h'=>∃bm n4 E,ZEa (zs.map (ivZ t)) E/\J bm n4 (ZBh (zs.map (ivZ t)) E) h'):=by
 have g1:=hg1;have hZ:=hLA.li;refine ZAy fun hw=>?_;refine ZAH Tryz.func158 rfl (by rw[Tryz.ntmps158];rfl) ?_;show Wc Tryz.prog ⟨158,52,none⟩ _ _ _ _ _;refine zy ?_
 refine ZAT (fun (s:Nat×Value) m ds h'=>ds=[]/\s.1<=zs.length/\Ext h h'/\ZAG h h' s.2 3 1 (((zs.take s.1).map fun z=>ZA0 t z.2).map i64) s.1 ∧
   AllK m [(0,.func (.yield l) ⟨[]⟩ ⟨[]⟩),(1,.pointer (some ⟨c1,0,none⟩)),(3,s.2),(10,.slice a zs.length cap),(11,i64 zs.length),(12,i64 s.1)]) (fun s=>zs.length-s.1) (0,.slice none 0 0) ?_ ?_
 ·exact⟨rfl,Nat.zero_le _,Ext.refl _,ZAG.nil _ _ _ _,rfl,rfl,rfl,rfl,rfl,rfl,trivial⟩
 rintro⟨k,v⟩ m ds h1 ⟨rfl,hk,hE1,hF1,hall⟩;simp only at hk hF1 hall;refine ZDG fun hw1=>?_;refine Wc.le ?_ (Le.kn hall);refine zy ?_;refine ZAE rfl rfl rfl rfl (ZAW rfl rfl) (fun hlt=>?_) (fun hlt=>?_)
 ·have hk':k<zs.length:=by omega
  obtain⟨b,o,oa,rfl,hcell⟩:=hZ k hk';have hzk:=hz _ (List.getElem_mem hk');have hsh:=(hSP _ (List.getElem_mem hk')).ext hE1;have htk:((zs.take (k+1)).map fun z=>ZA0 t z.2).map i64=((zs.take k).map fun z=>ZA0 t z.2).map i64++[i64 (ZA0 t zs[k].2)]:=by
   rw[List.take_add_one,List.getElem?_eq_getElem hk',List.map_append,List.map_append];rfl
  replace hcell:=hE1.cell hcell;generalize zs[k]=z at *;have hov:=ZG7 hsh hO hzk;refine zy ?_;refine ZAI rfl rfl rfl rfl (A_ix Und.h Tsz.h rfl rfl) ?_;refine zy ?_;refine ZA6 rfl rfl rfl rfl rfl Bod.h rfl rfl (hov) ?_;refine zy ?_;refine ZC8 rfl rfl Und.h Tsz.h Zr.h rfl rfl rfl rfl rfl fun h2 hE2 hW2 hg2 hn2=>?_;refine zy ?_;refine ZDK (k:=1) (l:=[i64 (ZA0 t z.2)]) hw (hE1.trans hE2) rfl rfl rfl rfl rfl Und.h inferInstance rfl rfl (hF1.ext hE2) (ZBC Und.h (by intro k;simp) (ZAd hg2 rfl)) rfl rfl (by omega) (by omega) fun v3 h3 hF3 hE3 _ _ _=>?_;rw[<-htk] at hF3;refine zy ?_;exact⟨(k+1,v3),(by show zs.length-(k+1)<zs.length-k;omega),rfl,hk',hE3,hF3,rfl,rfl,rfl,rfl,rfl,rfl,trivial⟩
 have hk2:k=zs.length:=by omega
 subst hk2;rw[List.take_length] at hF1;generalize hends:(zs.map fun z=>ZA0 t z.2)=ends at *;have hel:ends.length=zs.length:=by rw[<-hends,List.length_map]
 refine zy ?_;refine ZAq rfl rfl rfl rfl rfl Bod.h rfl rfl (ZLQ hF1 (by omega)) ?_;rintro _ h2 ⟨rfl,hF2,hX2⟩
 have hown:∀c,ZBN v=some c->h.nx<=c:=fun c hc=>by
  rcases hF1 with ⟨rfl,-,-⟩|⟨b,sp,op,rfl,-,-,hb,-⟩
  ·cases hc
  ·cases hc;exact hb
 have hE2:=hX2.ext hE1 hw hown;refine ZCM fun hw2=>?_;have hsl:(ZEh ends).length=zs.length:=by rw[ZKD,hel]
 rw[<-hsl] at hF2;refine zy ?_;have g12:=hE2.get g1;refine zy ?_;refine ZAq rfl rfl rfl rfl rfl Bod.h rfl rfl (ZFy (hZ.ext hE2) (hSP.ext hE2)) ?_;rintro _ h3 ⟨d1,d2,d3,bm,rfl,hE3,⟨nb,n1,n2,n3⟩,hP⟩;have hE03:=hE2.trans hE3;refine ZCM fun hw3=>?_;refine zy ?_;refine ZAq rfl rfl rfl rfl rfl Bod.h rfl rfl (ZMg (hF2.ext hE3) (by omega) hw hE03) ?_;rintro _ h4 ⟨hE04,hX4,aE,cE,rfl,hI4,hbE⟩;refine ZCM fun hw4=>?_
 have hEn:ZEa (zs.map (ivZ t)) (cmpK (ZEh ends) (ZEh ends).length):=ZPo (by
  refine (ZIL ends).trans ?_;rw[<-hends,List.map_map];exact List.Perm.refl _) (ZQN _)
 have hEl:=ZMX hEn;rw[List.length_map] at hEl
 have hblt:∀c,ZBN v=some c->c<h2.nx:=fun c hc=>by
  obtain⟨op,hq⟩:=hF2.got hc;exact hw2 _ _ hq
 have hP4:ZFF h4 d1 d2 d3 bm bH t a cap zs []:=hP.keep (fun c hc x hx=>hX4.get (fun q=>by have:=hblt c q;omega) hx) (hZ.ext hE04) (hSP.ext hE04);generalize cmpK (ZEh ends) (ZEh ends).length=E at *
 have hJ4:J bm h4.nx [] h4:=hJ0 h4 bm hE04 (by have:=hE2.2.1;omega) (by
  obtain⟨es,cl,hq,-⟩:=hP4.mp;exact hw4 _ _ hq)
 have hd1:=hw4 _ _ hP4.g1;have hd2:=hw4 _ _ hP4.g2;have hd3:=hw4 _ _ hP4.g3;have hdm:bm<h4.nx:=by
  obtain⟨es,cl,hq,-⟩:=hP4.mp;exact hw4 _ _ hq
 have hb4:h2.nx<=h4.nx:=Nat.le_trans hE3.2.1 hX4.2.1;generalize h4.nx=n4 at *;have hbnx:h.nx<=h2.nx:=hE2.2.1;refine zy ?_
 refine ZAT (fun (k:Nat) m ds h'=>ds=[]/\k<=E.length/\J bm n4 (ZBh (zs.map (ivZ t)) (E.take k)) h'/\ZBz h' aE E/\(∃memo,ZFF h' d1 d2 d3 bm bH t a cap zs memo) ∧
   AllK m [(0,.func (.yield l) ⟨[]⟩ ⟨[]⟩),(6,.func (.func 157) ⟨[]⟩ ⟨[.pointer (some ⟨d1,0,none⟩),.pointer (some ⟨d2,0,none⟩),.pointer (some ⟨d3,0,none⟩)]⟩),(27,.slice aE E.length cE),(28,i64 E.length),(29,i64 k)]) (fun k=>E.length-k) 0 ?_ ?_
 ·exact⟨rfl,Nat.zero_le _,hJ4,hI4,⟨_,hP4⟩,rfl,rfl,rfl,rfl,rfl,trivial⟩
 clear hJ4 hP4 hI4 g1 hall;rintro k m ds h5 ⟨rfl,hk,hJ5,hI5,⟨memo,hP5⟩,hall⟩;refine Wc.le ?_ (Le.kn hall);refine zy ?_;refine ZAE rfl rfl rfl rfl (ZAW rfl rfl) (fun hlt=>?_) (fun hlt=>?_);rotate_left
 ·have hk2:k=E.length:=by omega
  subst hk2;rw[List.take_length] at hJ5;refine zy ?_;exact ZOW rfl ⟨bm,n4,E,hEn,hJ5⟩
 have hk':k<E.length:=by omega
 have hout:(ZBh (zs.map (ivZ t)) (E.take k)).length<40:=by
  have:=ZFt (l:=zs.map (ivZ t)) (E:=E.take k);rw[List.length_take] at this;omega
 have hpt:=ZLh (l:=zs.map (ivZ t)) hk';obtain⟨b,o,oa,rfl,hcell⟩:=hI5 k hk';have hbb:=hbE b o oa rfl;have hb1:=hblt b hbb;have hb0:=hown b hbb;obtain⟨x,hx,hxe⟩:=(hEn.2 _).1 (List.getElem_mem hk');obtain⟨z,hz1,rfl⟩:=List.mem_map.1 hx;have hrg:=ZEQ hO (hz z hz1);have hxe2:ZA0 t z.2=E[k]:=hxe;rw[hxe2] at hrg;generalize E[k]=e at *;obtain⟨en,rfl⟩:∃en:Nat,e=(en:Int):=⟨e.toNat,by omega⟩;clear hxe hxe2 hx
 have hab:∀b o oa,a=some ⟨b,o,oa⟩->b≠bm:=fun b o oa e=>by
  obtain⟨⟨x,hx⟩,-⟩:=hLA.pl b o oa e;have:=hw _ _ hx;omega
 have hivs:∀x∈zs.map (ivZ t),x.Ok:=fun x hx=>by
  obtain⟨z,hz1,rfl⟩:=List.mem_map.1 hx;exact ZGd hO (hz z hz1)
 have hivw:∀x∈zs.map (ivZ t),x.w<=1000000:=fun x hx=>by
  obtain⟨z,hz1,rfl⟩:=List.mem_map.1 hx;obtain⟨-,-,-,-,w1,w2⟩:=ZAo (hz z hz1);exact w2
 have hr1:=ZD0 hO hz (by omega) hab en (by omega) h5 memo hP5;have hm1:=ZDm hivs hivw en;have hm1':=ZBo hivs (show (0:Int)<=en by omega);have hm2:=ZDm hivs hivw (en-1);have hm2':=ZBo hivs (show (0:Int)<=((en-1:Nat):Int) by omega);have hen1:((en-1:Nat):Int)=(en:Int)-1:=by omega
 have hpr:ZFP (zs.map (ivZ t)) en=ZBH (zs.map (ivZ t)) en-ZBH (zs.map (ivZ t)) ((en:Int)-1):=rfl;rw[hen1] at hm2 hm2';refine zy ?_;refine ZAI rfl rfl rfl rfl (A_ix Und.h Tsz.h rfl rfl) ?_;refine zy ?_;refine ZAq rfl rfl rfl rfl rfl Bod.h rfl rfl hr1 ?_;rintro _ h6 ⟨rfl,hX6,memo6,hP6⟩;have hr2:=ZD0 hO hz (by omega) hab (en-1) (by omega) h6 memo6 hP6;rw[hen1] at hr2;refine zy ?_;refine ZAq rfl rfl rfl rfl rfl Bod.h rfl rfl hr2 ?_;rintro _ h7 ⟨rfl,hX7,memo7,hP7⟩;have hX57:=hX6.trans hX7;have hJ7:=hst _ _ _ _ _ hJ5 hX57;have hI7:ZBz h7 (some ⟨b,o,oa⟩) E:=ZJh hI5 fun b1 o1 s1 e x hx=>hX57.get (fun q=>by cases e;omega) hx
 rw[hpr] at hpt;clear hpr hr1 hr2;generalize ZBH (zs.map (ivZ t)) en=M1 at *;generalize ZBH (zs.map (ivZ t)) ((en:Int)-1)=M2 at *;refine zy ?_;refine ZAE rfl rfl rfl rfl (ZB0 rfl rfl) (fun hp0=>?_) (fun hp0=>?_)
 ·rw[if_pos (by omega)] at hpt
  refine zy ?_;refine ZP1 rfl rfl rfl rfl rfl rfl rfl (hy _ _ _ ((en:Int)-1) (M1-M2) h7 hJ7 hout) ?_;rintro _ h8 ⟨rfl,hJ8,hX8⟩;obtain⟨hLA8,hSP8⟩:=hJ _ _ _ _ hJ8;have hI8:ZBz h8 (some ⟨b,o,oa⟩) E:=ZJh hI7 fun b1 o1 s1 e x hx=>hX8.get (fun q=>by cases e;exact q.elim (fun q=>by have:=hS _ q;omega) (fun q=>by omega)) hx;refine zy ?_;exact⟨k+1,(by show E.length-(k+1)<E.length-k;omega),rfl,hk',(by rw[hpt];exact hJ8),hI8,⟨memo7,hP7.keep (fun c hc x hx=>hX8.get (fun q=>by exact q.elim (fun q=>by have:=hS _ q;omega) (fun q=>by omega)) hx) hLA8.li hSP8⟩,rfl,rfl,rfl,rfl,rfl,trivial⟩
 ·rw[if_neg (by omega),List.append_nil] at hpt
  refine zy ?_;exact⟨k+1,(by show E.length-(k+1)<E.length-k;omega),rfl,hk',(by rw[hpt];exact hJ7),hI7,⟨memo7,hP7⟩,rfl,rfl,rfl,rfl,rfl,trivial⟩
def ivS (t:ScT)(s:ScS):Iv:=⟨s.minute,ZA0 t s,s.worth⟩
def canI (t:ScT)(v:Int)(l:List ScS):List Iv:=(canS t v l).map fun c=>ivS t c.1
def ZGn (t:ScT)(v:Int)(l:List ScS):Int:=ZBH (canI t v l) 115200
def ZDB (t:ScT)(v:Int)(l:List ScS):List (ScS×Nat):=choP (fun c:ScS×Nat=>ivS t c.1) 115200 (ZGn t v l) (canS t v l).length (canS t v l) 0
def ZDA (p:Int×Int):List Value:=[i64 p.1,i64 p.2]
def ZR0 (t:ScT)(v:Int)(l:List ScS)(h:Heap)(r:Value)(h':Heap):Prop:=Ext h h'/\((¬ZA4 t v l=0/\r=.tuple ⟨[.slice none 0 0,i64 0,.slice none 0 0,i64 (ZA4 t v l)]⟩)\/(ZA4 t v l=0/\∃vc vp E,r=.tuple ⟨[vc,i64 (ZGn t v l),vp,i64 0]⟩/\ZAG h h' vc 3 1 (((ZDB t v l).map fun c=>(c.2:Int)).map i64) (ZDB t v l).length/\ZEa (canI t v l) E/\ZAG h h' vp 110 2 ((ZBh (canI t v l) E).flatMap ZDA) (ZBh (canI t v l) E).length))
theorem ZHr {t:ScT}{x y:ScS}(hv:x.venue=y.venue):ZDD t x y=!decide (ZEB (ivS t x) (ivS t y)):=by
 unfold ZDD
 by_cases ha:ZA0 t x<=y.minute\/ZA0 t y<=x.minute
 ·rw[decide_eq_false (fun q:x.venue=y.venue/\x.minute<ZA0 t y/\y.minute<ZA0 t x=>by omega),decide_eq_true (show ZEB (ivS t x) (ivS t y) from ha)]
  rfl
 ·rw[decide_eq_true (show x.venue=y.venue/\x.minute<ZA0 t y/\y.minute<ZA0 t x from⟨hv,by omega,by omega⟩),decide_eq_false (show ¬ZEB (ivS t x) (ivS t y) from ha)]
  rfl
theorem ZNx {t:ScT}(hO:ScOk t){x:ScS}(h0:ZAQ t x=0):ZDD t x x=true:=by
 obtain⟨h1,h2,h3,h4,h5⟩:=ZEQ hO h0;unfold ZDD;exact decide_eq_true ⟨rfl,by omega,by omega⟩
abbrev CW:=(Nat×ScS)×Nat
abbrev ivW (t:ScT)(w:CW):Iv:=ivZ t w.1
theorem ZQR {t:ScT}(hO:ScOk t){w:CW}{L:List CW}(h0:ZAQ t w.1.2=0)(hv:∀u∈L,u.1.2.venue=w.1.2.venue):(((w::L).map Prod.fst).filter fun z=>!ZDD t w.1.2 z.2)=(ZCr (ivW t) w L).map Prod.fst:=by
 rw[List.map_cons,List.filter_cons,if_neg (by rw[ZNx hO h0];simp),List.filter_map];unfold ZCr
 congr 1
 refine List.filter_congr fun u hu=>?_
 show (!ZDD t w.1.2 u.1.2)=_
 rw[ZHr (hv u hu).symm,Bool.not_not]
 rfl
set_option maxHeartbeats 8000000 in
theorem ZO6 {tc:List Value}{t:ScT}{v:Int}{l:List ScS}{al:Option Addr}{cl:Nat}{h:Heap}(ht:ZBX h tc t)(hT:t.Fit)(hv:I64 v)(hl:ZAN 6 ScSR h al l)(hlF:∀s∈l,s.Fit)(hL:Len l):Sv Tryz.prog 42 [.agg ⟨tc⟩,i64 v,.slice al l.length cl] h (RetP (ZR0 t v l h)):=by
 have ht0:=ht;obtain⟨xl,cxl,at',ct,a1,c1,a2,c2,a3,c3,a4,c4,a5,c5,a6,c6,rfl,-⟩:=ht;refine ZAy fun hw=>?_;refine ZAH Tryz.func42 rfl (by rw[Tryz.ntmps42];rfl) ?_;show Wc Tryz.prog ⟨42,94,none⟩ _ _ _ _ _;refine zy ?_;refine ZAa rfl rfl rfl fun h1 hE1 hW1 hg1 hn1=>?_;refine zy ?_;refine ZCD rfl rfl Zr.h fun h2 hE2 hW2 hg2 hn2=>?_;replace hg1:=hE2.get hg1;have hb8:h.nx<=h1.nx:=by omega
 generalize h1.nx=b8 at *;replace hE2:=hE1.trans hE2;clear hE1 hW1 hn1;refine zy ?_;refine ZAq rfl rfl rfl rfl rfl Bod.h rfl rfl (ZE8 (ht0.ext hE2) hT hv (ZAN.ext (R:=ScSR) (fun x _=>x) hl hE2) hlF hL) ?_;rintro _ h3 ⟨hE3,⟨he,rfl⟩|⟨he,hO,-,a,cap,ai,ci,bH,ws,rfl,hws,hLA,hIn,hSP,hHo,hnd,hwl,hsh,hab⟩⟩
 ·have k3:=hE3.get hg2
  refine zy ?_;refine ZAE rfl rfl rfl rfl (ZAb rfl rfl) (fun h4=>?_) (fun h4=>?_)
  ·refine zy ?_
   refine ZBF rfl Tsz.h rfl rfl k3 rfl rfl rfl fun h5 hU=>?_;refine zy ?_;exact ZAC (ZAD (vs:=[.slice none 0 0,i64 0,.slice none 0 0,i64 (ZA4 t v l)]) (ZEG rfl (ZEG rfl (ZJV rfl (ZHp OneC.h (ZAk hU.at' rfl)) (ZEG rfl rfl)))) ⟨hU.ext (hE2.trans hE3) hw (by omega),.inl ⟨he,rfl⟩⟩)
  ·exact absurd (Decidable.not_not.1 h4) he
 replace hg2:=hE3.get hg2;have hE:=hE2.trans hE3;clear hE2 hE3 hg1;refine zy ?_;refine ZAE rfl rfl rfl rfl (ZAb rfl rfl) (fun h4=>?_) (fun h4=>?_)
 ·exact absurd rfl h4
 clear h4;refine ZCM fun hw3=>?_;have hb83:=hw3 _ _ hg2
 have hzs:∀z∈ws.map Prod.fst,ZAQ t z.2=0:=fun z hz=>by
  obtain⟨w,hw,rfl⟩:=List.mem_map.1 hz;exact hsh w hw
 have hcI:canI t v l=ws.map (ivW t):=by
  unfold canI;rw[<-hws,List.map_map];rfl
 have hvn:∀w∈ws,w.1.2.venue=v:=fun w hw=>by
  have:(w.1.2,w.2)∈canS t v l:=by rw[<-hws];exact List.mem_map_of_mem hw
  exact (ZLw this).2.2.1
 have hivs:∀L:List CW,(∀w∈L,w∈ws)->∀x∈L.map (ivW t),x.Ok/\x.w<=1000000:=fun L hL x hx=>by
  obtain⟨w,hw,rfl⟩:=List.mem_map.1 hx;refine⟨ZGd hO (hsh w (hL w hw)),?_⟩;obtain⟨-,-,-,-,w1,w2⟩:=ZAo (hsh w (hL w hw));exact w2
 have hmI:∀L:List CW,(∀w∈L,w∈ws)->0<=ZBH (L.map (ivW t)) 115200/\ZBH (L.map (ivW t)) 115200<=115200000000:=fun L hL=>by
  refine⟨ZBo (fun x hx=>(hivs L hL x hx).1) (by decide),?_⟩;have:=ZDm (fun x hx=>(hivs L hL x hx).1) (fun x hx=>(hivs L hL x hx).2) 115200;exact Int.le_trans this (by decide)
 have hpab:∀{h':Heap} {a:Option Addr} {cap bm:Nat} {zs:List (Nat×ScS)},ZBl ptrZ h' a cap zs->WF h'->h'.nx<=bm->∀b o oa,a=some ⟨b,o,oa⟩->b≠bm:=fun {h' a cap bm zs} hL hW hb b o oa e=>by
  obtain⟨⟨x,hx⟩,-⟩:=hL.pl b o oa e;have:=hW _ _ hx;omega
 have hmm:∀L:List CW,((L.map Prod.fst).map (ivZ t))=L.map (ivW t):=fun L=>by rw[List.map_map];rfl
 have hbw:ZGn t v l=ZBH (ws.map (ivW t)) 115200:=by unfold ZGn;rw[hcI]
 have hW0:=hmI ws (fun _ h=>h);have hch:(ZDB t v l).map (fun c=>(c.2:Int))=(choP (ivW t) 115200 (ZGn t v l) ws.length ws 0).map fun w=>(w.2:Int):=by
  unfold ZDB;have e1:(canS t v l).length=ws.length:=by rw[<-hws,List.length_map]
  rw[e1,<-hws,ZIc (fun w:CW=>(w.1.2,w.2)) (fun c:ScS×Nat=>ivS t c.1) 115200,List.map_map]
  rfl
 rw[<-hbw] at hW0;generalize hWq:ZGn t v l=W at *;refine zy ?_;refine ZAq rfl rfl rfl rfl rfl Bod.h rfl rfl (ZFy hLA.li hSP) ?_;rintro _ h4 ⟨d1,d2,d3,bm,rfl,hE4,⟨hbm0,n1,n2,n3⟩,hP⟩;refine ZCM fun hw4=>?_;have hgo:=ZD0 hO hzs (by rw[List.length_map];omega) (hpab hLA hw3 hbm0) 115200 (by decide) h4 [] hP;rw[hmm,show ((115200:Nat):Int)=115200 from rfl,<-hbw] at hgo;refine zy ?_;refine ZAq rfl rfl rfl rfl rfl Bod.h rfl rfl hgo ?_;rintro _ h5 ⟨rfl,hX5,-⟩;have hE5:Ext h3 h5:=hX5.ext hE4 hw3 fun c hc=>by rw[hc];exact hbm0
 clear hX5 hP hE4 hgo;refine ZCM fun hw5=>?_;refine zy ?_
 refine Wc.mono (Q:=fun z m' ds' h'=>z=.exit 0/\ds'=[]/\Ext h3 h'/\(∃vc,ZAG h3 h' vc 3 1 (((choP (ivW t) 115200 W ws.length ws 0).map fun w=>(w.2:Int)).map i64) (choP (ivW t) 115200 W ws.length ws 0).length/\AllK m' [(6,vc),(7,i64 W),(8,.pointer (some ⟨b8,0,none⟩)),(10,.slice a (ws.map Prod.fst).length cap)])) (ZAT (fun (s:List CW×Option Addr×Nat×Value×List CW×Int) m ds h'=>ds=[]/\Ext h3 h'/\ZBl ptrZ h' s.2.1 s.2.2.1 (s.1.map Prod.fst)/\s.1.Sublist ws/\ZAG h3 h' s.2.2.2.1 3 1 ((s.2.2.2.2.1.map fun w=>(w.2:Int)).map i64) s.2.2.2.2.1.length ∧
   s.2.2.2.2.1++choP (ivW t) 115200 W s.1.length s.1 s.2.2.2.2.2=choP (ivW t) 115200 W ws.length ws 0/\s.2.2.2.2.1.length+s.1.length<=ws.length/\(0<=s.2.2.2.2.2/\s.2.2.2.2.2<=115201000000)/\(∀b o sp,s.2.1=some ⟨b,o,sp⟩->ZBN s.2.2.2.1≠some b) ∧
   AllK m [(6,s.2.2.2.1),(7,i64 W),(8,.pointer (some ⟨b8,0,none⟩)),(10,.slice a (ws.map Prod.fst).length cap),(11,.slice ai (ws.map Prod.snd).length ci),(12,.slice s.2.1 (s.1.map Prod.fst).length s.2.2.1),(13,i64 s.2.2.2.2.2)]) (fun s=>s.1.length) (ws,a,cap,.slice none 0 0,[],0) ?_ ?_) ?_
 ·exact⟨rfl,hE5,hLA.ext hE5,List.Sublist.refl _,ZAG.nil _ _ _ _,rfl,(by simp),⟨Int.le_refl _,by show (0:Int)<=115201000000;decide⟩,(fun b o sp e q=>nomatch q),rfl,rfl,rfl,rfl,rfl,rfl,rfl,trivial⟩
 rotate_left
 ·clear hE5 hw5
  rintro _ m ds h6 ⟨rfl,rfl,hE6,vc,hFC,hall⟩
  show Wc _ _ _ _ _ _ _
  refine ZDG fun hw6=>?_;refine Wc.le ?_ (Le.kn hall);refine zy ?_;refine ZAq rfl rfl rfl rfl rfl Bod.h rfl rfl ZNn ?_;rintro _ h7 ⟨p1,rfl,hE7,hp1,k1⟩;have hE37:=hE6.trans hE7;refine zy ?_;refine ZDG fun hw7=>?_;refine ZNe rfl rfl Bod.h (fun e hs hL4 hEL hWL hnL hLr hLl=>?_);have hE3L:=hE37.trans hEL;have kb8:=hE3L.get hg2;have k1L:=hEL.get k1;have hlp7:h7.nx+1<hL4.nx:=by omega
  generalize hlp:h7.nx+1=lp at *;generalize hrg:h7.nx=rg at *
  have hb8a:∀b o sp,a=some ⟨b,o,sp⟩->b≠b8/\b<h3.nx:=fun b o sp e=>by
   obtain⟨⟨x,hx⟩,-⟩:=hLA.pl b o sp e;have:=hab b o sp e;exact⟨by omega,hw3 _ _ hx⟩
  have hshb:∀z∈ws.map Prod.fst,z.1≠b8/\z.1<h3.nx:=fun z hz=>by
   have hq:=hSP z hz;refine⟨fun e=>?_,hw3 _ _ hq⟩;unfold ZBU at hq;rw[e,hg2] at hq;cases hq
  have hn37:=hE37.2.1;have hE0L:Ext h hL4:=hE.trans hE3L;have hb8L:b8<hL4.nx:=by omega
  have hnx0:=hE.2.1;have hLAL:=hLA.ext hE3L;have hSPL:=ZCg.ext hSP hE3L;generalize hrec:AO.loop LoopState.ready none _ _ _ _ _ _ _=rec at hLl
  let S:Nat->Prop:=fun b=>b=lp\/b=b8
  let J:Nat->Nat->List (Int×Int)->Heap->Prop:=fun bm n4 out h'=>(hL4.nx<=bm/\bm<n4/\n4<=h'.nx)/\Exb (fun c=>c=lp\/c=b8\/hL4.nx<=c) hL4 h'/\h'.get lp=some rec/\∃vp,h'.get b8=some (.cells [vp] 93 false)/\ZAG h h' vp 110 2 (out.flatMap ZDA) out.length/\∀c,ZBN vp=some c->n4<=c
  have hSn:∀c,(c=lp\/c=b8\/hL4.nx<=c)->h.nx<=c:=fun c hc=>by
   have:=hE0L.2.1
   rcases hc with e|e|e <;> omega
  refine (ZI7 (l:=lp) (c1:=p1) (cap:=cap) (bH:=bH) (t:=t) (zs:=ws.map Prod.fst) hO hzs (by rw[List.length_map];exact hwl) k1L hLAL hSPL S (fun b hb=>by rcases hb with e|e <;> omega) J (fun h4 bm hE4 hb1 hb2=>?_) (fun bm n4 out h5 hJ=>?_) (fun bm n4 out h5 h6 hJ hX=>?_) (fun bm n4 out mi pr h5 hJ hout=>?_)).ret ?_
  ·exact⟨⟨hb1,hb2,Nat.le_refl _⟩,Exb.of hE4,hE4.get hLl,.slice none 0 0,hE4.get kb8,ZAG.nil _ _ _ _,fun c q=>nomatch q⟩
  ·obtain⟨-,jX,-⟩:=hJ
   refine⟨hLAL.keep fun b o sp e x hx=>jX.get (fun q=>?_) hx,fun z hz=>jX.get (fun q=>?_) (hSPL z hz)⟩
   ·obtain⟨q1,q2⟩:=hb8a b o sp e
    rcases q with q|q|q <;> omega
   ·obtain⟨q1,q2⟩:=hshb z hz
    rcases q with q|q|q <;> omega
  ·obtain⟨⟨j1,j2,j3⟩,jX,jl,vp,jb,jF,jn⟩:=hJ
   exact⟨⟨j1,j2,Nat.le_trans j3 hX.2.1⟩,jX.trans (hX.mono fun c hc=>.inr (.inr (by rw[hc];exact j1))),hX.get (by omega) jl,vp,hX.get (by omega) jb,jF.keep fun b o hb hg=>hX.get (fun q=>by have:=jn b hb;omega) hg,jn⟩
  ·obtain⟨⟨j1,j2,j3⟩,jX,jl,vp,jb,jF,jn⟩:=hJ
   have hE05:Ext h h5:=jX.ext hE0L hw hSn;subst hrec;refine ZP2 jl hs rfl rfl ?_;refine ZDG fun hw5=>?_;have ln5:=hw5 _ _ jl;refine zy ?_;refine⟨rfl,rfl,_,_,_,_,_,_,_,_,jl,?_⟩;generalize hAO:AO.loop LoopState.busy _ _ _ _ _ _ _ _=bo;have hU:=Upd.mk' h5 lp bo;generalize h5.set lp bo=h7 at *;have jb7:=hU.get (show b8≠lp by omega) jb;have hX57:Exb (fun c=>S c\/n4<=c) h5 h7:=(Exb.refl _ _).upd hU (.inl (.inl rfl));have hE07:Ext h h7:=hU.ext hE05 hw (by omega);have jF7:ZAG h h7 vp 110 2 (out.flatMap ZDA) out.length:=jF.keep fun b o hb hg=>hU.get (fun q=>by have:=jn b hb;omega) hg;have hl7:=hU.at';have n57:=hU.nx
   have hrl':(out++[(mi,pr)]).length=out.length+1:=by simp
   have hrm:(out++[(mi,pr)]).flatMap ZDA=out.flatMap ZDA++[i64 mi,i64 pr]:=by rw[List.flatMap_append];rfl
   refine zy ?_;refine ZC8 rfl rfl Und.h Tsz.h Zr.h rfl rfl rfl rfl rfl fun h8 hE8 hW8 hg8 hn8=>?_;refine zy ?_;refine ZDK (k:=1) (l:=[i64 mi,i64 pr]) hw (hE07.trans hE8) rfl rfl rfl rfl rfl Und.h inferInstance rfl rfl (jF7.ext hE8) (ZBC Und.h (by intro k;simp) (ZAd hg8 rfl)) rfl rfl (by omega) (by omega) fun v9 h9 hF9 hE9 hK9 hn9 hb9=>?_;rw[<-hrl',<-hrm] at hF9;have jb9:=hK9 b8 _ (fun q=>by have:=jn b8 q;omega) (hE8.get jb7);have hl9:=hK9 lp _ (fun q=>by have:=jn lp q;omega) (hE8.get hl7);have hX89:Exb (fun c=>S c\/n4<=c) h8 h9:=⟨fun c o hc hg=>hK9 c o (fun q=>hc (.inr (jn c q))) hg,hn9,hE9.2.2.trans (hE07.trans hE8).2.2.symm⟩
   have hX79:=(hX57.trans (Exb.of hE8)).trans hX89
   have hv9:∀c,ZBN v9=some c->n4<=c/\c≠b8/\c≠lp:=fun c hc=>by
    have hq:n4<=c:=by
     rcases hb9 with g|⟨c',g1,g2⟩
     ·exact jn c (by rw[<-g];exact hc)
     ·have g3:some c'=some c:=g1.symm.trans hc
      cases g3;have:=hE8.2.1;omega
    exact⟨hq,by omega,by omega⟩
   obtain⟨a9,rfl,-⟩:=hF9.is;refine zy ?_;refine ZBF rfl Tsz.h rfl rfl jb9 rfl rfl rfl fun h10 hU10=>?_;refine zy ?_;have hl10:=hU10.get (show lp≠b8 by omega) hl9;subst hAO;refine⟨none,.busy,none,_,_,e,_,_,_,_,rfl,hl10,rfl,?_⟩;have hX10:Exb (fun c=>S c\/n4<=c) h5 h10:=hX79.upd hU10 (.inl (.inr rfl));refine⟨⟨⟨j1,j2,Nat.le_trans j3 (hX10.set _ (.inl (.inl rfl))).2.1⟩,jX.trans ((hX10.set _ (.inl (.inl rfl))).mono fun c hc=>?_),Heap.get_set_self _ _ _,_,(Heap.get_set_other _ (show b8≠lp by omega)).trans hU10.at',hF9.keep fun b o hb hg=>(Heap.get_set_other _ (hv9 b hb).2.2).trans (hU10.get (hv9 b hb).2.1 hg),fun c hc=>(hv9 c hc).1⟩,hX10.set _ (.inl (.inl rfl))⟩
   rcases hc with (q|q)|q
   ·exact .inl q
   ·exact .inr (.inl q)
   ·exact .inr (.inr (by omega))
  ·rintro _ h5 ⟨bm,n4,E,hEn,⟨j1,j2,j3⟩,jX,jl,vp,jb,jF,jn⟩
   subst hrec;refine⟨.ready,none,_,_,_,_,_,_,_,jl,by simp,fun _=>?_,fun c hc=>nomatch hc⟩;generalize hAO:AO.loop LoopState.exhausted _ _ _ _ _ _ _ _=bo;have hU:=Upd.mk' h5 lp bo;generalize h5.set lp bo=h8 at *;have jb8:=hU.get (show b8≠lp by omega) jb;obtain⟨aV,nV,rfl⟩:∃aV nV,vp=.slice aV nV nV:=by obtain⟨a,e,-⟩:=jF.is;exact⟨a,_,e⟩
   show Wc _ _ _ _ _ _ _
   refine zy ?_;refine ZAJ hmix [0,0,0,1,11,31,63] [0,1,2] (some 3) [([],(some 4)),([],(some 5)),([],(some 6)),([],none)] (by kernel_rfl) (by kernel_rfl) ?_;refine z_m ?_;refine z_m ?_;refine z_l ?_;refine ZAF [0] (by kernel_rfl) rfl (ZAA rfl) rfl nb rfl (ZAj rfl rfl (ZAO rfl) ?_);refine ZAF [0,1,3] (by kernel_rfl) rfl (by refine t_l 2 ?_;refine t_m 1 ?_;exact ZAA rfl) rfl nb rfl (ZAj rfl rfl (ZAO rfl) ?_);refine ZAF [0,1,2,3,4] (by kernel_rfl) rfl (by refine t_l 2 ?_;exact ZAA rfl) rfl nb rfl (ZBD rfl rfl Tsz.h rfl rfl jb8 rfl rfl rfl (fun h10 hU10=>?_));refine ZAF [0,1,2,3,4,5] (by kernel_rfl) rfl (ZAA rfl) rfl nb rfl (ZAj rfl rfl (ZAO rfl) ?_)
   refine ZAM (ZAA rfl) nb' ?_;have hXf:Exb (fun c=>c=lp\/c=b8\/hL4.nx<=c) hL4 h10:=(jX.upd hU (.inl rfl)).upd hU10 (.inr (.inl rfl))
   have hd1:∀{c:Nat} {o:AO},c≠rg->h10.get c=some o->(delL h10 [rg]).get c=some o:=fun {c o} hc hg=>by
    rw[ZFR (fun q=>hc (List.mem_singleton.1 q))];exact hg
   have hrg10:h10.get rg=some .defd:=hXf.get (fun q=>by rcases q with q|q|q <;> omega) hLr
   have hvcb:∀c,ZBN vc=some c->c<h6.nx/\h3.nx<=c:=fun c hc=>by
    obtain⟨op,hq⟩:=hFC.got hc;refine⟨hw6 _ _ hq,?_⟩
    ·rcases hFC with ⟨rfl,-,-⟩|⟨b,sp,op,rfl,-,-,hb,-⟩
     ·cases hc
     ·cases hc;exact hb
   have n67:=hE7.2.1;have hcn:((choP (ivW t) 115200 W ws.length ws 0).map fun w=>(w.2:Int))=(ZDB t v l).map fun c=>(c.2:Int):=hch.symm;have hcl:(choP (ivW t) 115200 W ws.length ws 0).length=(ZDB t v l).length:=by
    have:=congrArg List.length hcn;rw[List.length_map,List.length_map] at this;exact this
   refine zy ?_;refine ZAC (ZRA (rs:=[rg]) (by simp) (fun x hx=>by rw[List.mem_singleton.1 hx];exact hrg10) (vs:=[vc,i64 W,.slice aV nV nV,i64 0]) (ZEG rfl (ZEG rfl (ZJV rfl (ZHp OneC.h (ZAk (hd1 (by omega) hU10.at') rfl)) (ZEG rfl rfl)))) ⟨(hXf.ext hE0L hw hSn).delL hw (fun x hx=>by rw[List.mem_singleton.1 hx];omega),.inr ⟨he,vc,.slice aV nV nV,E,?_,?_,?_,?_⟩⟩)
   ·rw[hWq];rfl
   ·rw[<-hcl,<-hcn]
    refine ZAG.base (h1:=h3) (hFC.keep fun b o hb hg=>?_) hnx0;obtain⟨q1,q2⟩:=hvcb b hb
    exact hd1 (by omega) (hXf.get (fun q=>by rcases q with q|q|q <;> omega) (hEL.get (hE7.get hg)))
   ·rw[hcI];rw[hmm] at hEn;exact hEn
   ·rw[hcI]
    rw[hmm] at jF;refine jF.keep fun b o hb hg=>?_;have:=jn b hb;exact hd1 (by omega) (hU10.get (by omega) (hU.get (by omega) hg))
 clear hE5 hw5;rintro⟨L,aL,cL,vc,C,sum⟩ m ds h6 ⟨rfl,hE6,hLL,hsub,hFC,hCh,hCl,⟨hs0,hs1⟩,hne,hall⟩;simp only at hLL hsub hFC hCh hCl hs0 hs1 hne hall;refine ZDG fun hw6=>?_;refine Wc.le ?_ (Le.kn hall);refine zy ?_;have hnil:∀{s:Int},L=[]->choP (ivW t) 115200 W L.length L s=[]:=fun {s} e=>by rw[e];rfl
 by_cases h1:sum<W
 rotate_left
 ·have hC:C=choP (ivW t) 115200 W ws.length ws 0:=by
   rw[<-hCh]
   cases L with
   | nil=>simp[choP]
   | cons w L=>rw[List.length_cons,choP,if_pos (by omega),List.append_nil]
  refine ZAI rfl rfl rfl rfl (A_ff h1 (ZAW rfl rfl)) ?_;refine zy ?_;exact⟨rfl,rfl,hE6,vc,by rw[<-hC];exact hFC,rfl,rfl,rfl,rfl,trivial⟩
 refine ZAI rfl rfl rfl rfl (A_tt h1 (ZAW rfl rfl)) ?_;refine zy ?_;refine ZAE rfl rfl rfl rfl (ZB0 rfl rfl) (fun h2=>?_) (fun h2=>?_);rotate_left
 ·have hLn:L=[]:=by
   cases L with
   | nil=>rfl
   | cons w L=>exact absurd (by simp only[List.map_cons,List.length_cons];omega) h2
  have hC:C=choP (ivW t) 115200 W ws.length ws 0:=by rw[<-hCh,hnil hLn,List.append_nil]
  refine zy ?_;exact⟨rfl,rfl,hE6,vc,by rw[<-hC];exact hFC,rfl,rfl,rfl,rfl,trivial⟩
 cases L with
 | nil=>exact absurd h2 (by simp)
 | cons w L =>
 have hw6m:w∈ws:=hsub.subset List.mem_cons_self;have hLm:∀u∈L,u∈ws:=fun u hu=>hsub.subset (List.mem_cons_of_mem _ hu);have hLsub:L.Sublist ws:=(List.sublist_cons_self w L).trans hsub;have hx0:=hsh w hw6m;have hSx:=(hSP w.1 (List.mem_map_of_mem hw6m)).ext hE6;have hne0:(w::L).map Prod.fst≠[]:=by simp
 obtain⟨ba,oa,spa,rfl,-⟩:=hLL.at' hne0;have hc0:ZAc h6 ba (oa+0*1)=some (ptrZ w.1):=by
  obtain⟨b1,o1,s1,e1,hc⟩:=hLL.li 0 (by simp);cases e1;exact hc
 have hawm:∀u∈ZCr (ivW t) w L,u∈ws:=fun u hu=>hLm u (List.mem_filter.1 hu).1;have hawl:=ZGo (ivW t) w L;have haws:(ZCr (ivW t) w L).Sublist ws:=List.filter_sublist.trans hLsub;have hdel:=ZQR hO hx0 (L:=L) (fun u hu=>by rw[hvn u (hLm u hu),hvn w hw6m]);have hstepC:choP (ivW t) 115200 W (w::L).length (w::L) sum=if sum+w.1.2.worth+ZBH ((ZCr (ivW t) w L).map (ivW t)) 115200=W then w::choP (ivW t) 115200 W (ZCr (ivW t) w L).length (ZCr (ivW t) w L) (sum+w.1.2.worth) else choP (ivW t) 115200 W L.length L sum:=by
  rw[List.length_cons,choP,if_neg (by omega)]
  show (if sum+w.1.2.worth+ZBH ((ZCr (ivW t) w L).map (ivW t)) 115200=W then _ else _)=_
  rw[ZE3 (ivW t) 115200 (f:=L.length) (g:=(ZCr (ivW t) w L).length) hawl (Nat.le_refl _)]
  rfl
 have hbest:=hmI (ZCr (ivW t) w L) hawm;obtain⟨-,-,-,-,w1,w2⟩:=ZAo hx0
 have hwsP:∀{h':Heap},Ext h3 h'->∀z∈(w::L).map Prod.fst,ZBU h' z.1 bH t z.2:=fun hE' z hz=>(hSP z (by
  obtain⟨u,hu,rfl⟩:=List.mem_map.1 hz;exact List.mem_map_of_mem (hsub.subset hu))).ext hE'
 have hwz0:∀z∈(w::L).map Prod.fst,ZAQ t z.2=0:=fun z hz=>by
  obtain⟨u,hu,rfl⟩:=List.mem_map.1 hz;exact hsh u (hsub.subset hu)
 refine zy ?_;refine ZAI rfl rfl rfl rfl (ZAK (k:=0) Und.h Tsz.h rfl rfl rfl (by simp)) ?_;refine zy ?_;refine ZAq rfl rfl rfl rfl rfl Bod.h rfl rfl (ZNc (hLL.srcAt hne0) (hLL.none hne0) (by have:=hsub.length_le;rw[List.length_map];omega)) ?_;rintro vk h7 ⟨hFk,hE7⟩;refine ZCM fun hw7=>?_;have hE67:=hE6.trans hE7
 rcases hFk with ⟨-,e0,-⟩|⟨bk,spk,opk',rfl,hgk,-,hbk,hspk⟩
 ·exact absurd (List.map_eq_nil_iff.1 e0) hne0
 have hbk7:=hw7 _ _ hgk;refine zy ?_;refine ZAq rfl rfl rfl rfl rfl Bod.h rfl rfl (ZNS (p:=fun z=>ZDD t w.1.2 z.2) hgk hspk Bod.h (fun h8 hX8 z hz=>ZLa (hX8.get (fun q=>?_) (hwsP hE67 w.1 (List.mem_cons_self))) (hX8.get (fun q=>?_) (hwsP hE67 z hz)) hO hx0 (hwz0 z hz)) (by have:=hsub.length_le;rw[List.length_map];omega)) ?_
 ·have:=hw6 _ _ hSx
  omega
 ·have:=hw6 _ _ (hwsP hE6 z hz)
  omega
 rintro _ h8 ⟨cw,vw,rfl,hcw,hX8,hg8⟩;refine ZCM fun hw8=>?_;rw[hdel] at hcw hg8 ⊢;have hE68:Ext h6 h8:=hX8.ext hE7 hw6 fun c hc=>by rw[hc];exact hbk
 have hE38:=hE6.trans hE68
 have hLW:ZBl ptrZ h8 (some ⟨bk,0,spk⟩) cw ((ZCr (ivW t) w L).map Prod.fst):=⟨fun i hi=>⟨bk,0,spk,rfl,ZAk hg8 (by
  rw[ZA7,Nat.zero_add,Nat.mul_one,List.getElem?_append_left (by rw[List.length_map];exact hi),List.getElem?_map,List.getElem?_eq_getElem hi];rfl)⟩,hcw,fun b o sp e=>by cases e;exact⟨⟨_,hg8⟩,fun _=>hspk⟩⟩
 have hSPW:∀{h':Heap},Ext h3 h'->ZCg h' bH t ((ZCr (ivW t) w L).map Prod.fst):=fun hE' z hz=>(hSP z (by
  obtain⟨u,hu,rfl⟩:=List.mem_map.1 hz;exact List.mem_map_of_mem (hawm u hu))).ext hE'
 have hprog:=ZFy (cap:=cw) hLW.li (hSPW hE38);have hSx8:=hSx.ext hE68;have hk8:=hE38.get hg2;generalize hAW:ZCr (ivW t) w L=AW at *;have hFC8:=hFC.ext hE68;have kx8:=hSx8;unfold ZBU ZGr at kx8
 have hvcb:∀c,ZBN vc=some c->c<h6.nx:=fun c hc=>by
  obtain⟨op,hq⟩:=hFC.got hc;exact hw6 _ _ hq
 refine zy ?_
 by_cases htk:sum+w.1.2.worth+ZBH (AW.map (ivW t)) 115200=W
 ·rw[if_pos htk] at hstepC
  refine ZAJ hmix [0,0,2,6,14,30,63,0,128,384,1023,0,4095] [0,1,2,3,4,5,6,7,11] (some 8) [([],(some 9)),([10,12],none)] (by kernel_rfl) (by kernel_rfl) ?_;refine z_m ?_;refine z_m ?_;refine z_q ?_;refine z_f ?_;refine z_f ?_;refine z_l ?_;refine ZAB rfl rfl rfl rfl rfl (fun _=>ZCH rfl rfl (by omega) (by omega)) ?_;refine z_m ?_;refine z_m ?_;refine ZAF [7] (by kernel_rfl) rfl (ZAA rfl) rfl nb rfl (ZFE rfl rfl rfl rfl rfl Bod.h hprog (fun v9 h9 hR=>?_));obtain⟨q1,q2,q3,qm,rfl,hE9,⟨nq,m1,m2,m3⟩,hP9⟩:=hR;have kx9:=hE9.get kx8;have hgo9:=ZD0 hO (fun z hz=>hzs z (haws.map Prod.fst |>.subset hz)) (by rw[List.length_map];have:=haws.length_le;omega) (hpab hLW hw8 nq) 115200 (by decide) h9 [] hP9
  rw[hmm,show ((115200:Nat):Int)=115200 from rfl] at hgo9;refine ZAF [7,8] (by kernel_rfl) rfl (by refine t_m 11 ?_;refine ZAY (i:=6) rfl rfl rfl rfl rfl (fun _=>ZCH rfl rfl (by omega) (by omega)) rfl ?_;refine t_l 5 ?_;refine t_f 4 ?_;refine t_f 3 ?_;refine t_q 2 ?_;refine t_m 1 ?_;refine t_m 0 ?_;exact ZAA rfl) rfl nb rfl (ZBS (ZFE rfl rfl rfl rfl rfl Bod.h hgo9 (fun v10 h10 hR hw10=>?_)));obtain⟨rfl,hX10,-⟩:=hR;have hE80:Ext h8 h10:=hX10.ext hE9 hw8 fun c hc=>by rw[hc];exact nq
  have kx10:=hE80.get kx8;refine ZAB rfl rfl rfl rfl rfl (fun _=>ZCH rfl rfl (by omega) (by omega)) ?_;refine ZAB rfl rfl rfl rfl rfl (fun _=>A_tt htk (ZAX rfl rfl)) ?_;refine ZAM (by refine t_m 11 ?_;refine ZAY (i:=6) rfl rfl rfl rfl rfl (fun _=>ZCH rfl rfl (by omega) (by omega)) rfl ?_;refine t_l 5 ?_;refine t_f 4 ?_;refine t_f 3 ?_;refine t_q 2 ?_;refine t_m 1 ?_;refine t_m 0 ?_;exact ZAA rfl) nb' ?_;refine zy ?_;obtain⟨kk,hkk,ekk⟩:=List.getElem_of_mem hw6m;have hkm:kk<(ws.map Prod.fst).length:=by rw[List.length_map];exact hkk
  have hkl:kk<(ws.map Prod.snd).length:=by rw[List.length_map];exact hkk
  have ekk1:(ws.map Prod.fst)[kk]=w.1:=by rw[List.getElem_map,ekk]
  obtain⟨bi,oi,si,rfl,hci⟩:=hIn kk (by rw[List.length_map];exact hkk);rw[List.getElem_map,ekk] at hci;have hE310:=hE38.trans hE80;have hci10:=hE310.cell hci
  have hix:=ZOQ (k:=kk) (cap:=cap) (hLA.li.ext hE310) (fun z hz=>⟨_,_,_,hE310.get (hSP z hz)⟩) hkm (fun j hj=>by
   have hn:=List.pairwise_iff_getElem.1 hnd j kk (by rw[List.length_map];omega) (by rw[List.length_map];exact hkk) hj;rw[List.getElem_map,List.getElem_map] at hn;rw[List.getElem_map,List.getElem_map];exact hn) (by rw[List.length_map];omega)
  rw[ekk1] at hix;have hgl':(C++[w]).length=C.length+1:=by simp
  have hgm:((C++[w]).map fun w=>(w.2:Int)).map i64=(C.map fun w=>(w.2:Int)).map i64++[i64 (w.2:Int)]:=by simp
  have hEa:Ext h10 (h10.add (.cells [i64 (w.2:Int)] 3 false)):=Ext.add hw10 _;have kxa:=hEa.get kx10;have hn310:=hE310.2.1;refine ZAJ hmix [0,0,0,0,12,30,62,126,255,0,0,1024,3072,7168,15360,32256,0,511,196607,524287] [0,1,2,3,9,10,11,12,13,14,15,16] (some 4) [([5,6,7],(some 8)),([],(some 17)),([],(some 18)),([],(some 19)),([],none)] (by kernel_rfl) (by kernel_rfl) ?_;refine z_m ?_;refine z_m ?_;refine z_m ?_;refine z_m ?_;refine z_m ?_;refine z_m ?_;refine z_q ?_;refine z_f ?_;refine z_f ?_;refine z_l ?_;refine ZAB rfl rfl rfl rfl rfl (fun _=>ZCH rfl rfl (by omega) (by omega)) ?_;refine z_m ?_
  refine ZAF [2,3] (by kernel_rfl) rfl (ZAA rfl) rfl nb rfl (ZAs rfl rfl rfl rfl rfl Bod.h hix ?_);refine ZAB rfl rfl rfl rfl rfl (fun _=>A_ix (k:=kk) Und.h Tsz.h rfl rfl) ?_;refine z_l ?_;refine ZCb (nk:=.sl _ _) rfl rfl rfl rfl rfl (fun _ _ hs=>N_bs hs Und.h Tsz.h Zr.h rfl rfl rfl rfl rfl) ?_;refine ZAF (h1:=(Heap.add h10 _)) [0,1,2,3,4,5,6,7] (by kernel_rfl) rfl (by refine t_m 16 ?_;refine ZAY (i:=15) rfl rfl rfl rfl rfl (fun _=>ZCH rfl rfl (by omega) (by omega)) rfl ?_;refine t_l 14 ?_;refine t_f 13 ?_;refine t_f 12 ?_;refine t_q 11 ?_;refine t_m 10 ?_;refine t_m 9 ?_;refine t_m 1 ?_;refine t_m 0 ?_;exact ZAA rfl) rfl rfl rfl (ZBS (ZFz (by':=8) (sz:=1) (k:=1) (n:=C.length) (l:=[i64 (w.2:Int)]) rfl hw3 (hw10.add _) (hE310.trans hEa) rfl rfl rfl rfl Und.h inferInstance rfl rfl ((hFC8.ext hE80).ext hEa) ((ZAG.lit (h0:=h3) (n:=1) (sz:=1) Heap.get_add_same rfl hn310).src (dd:=.slice 3) Und.h (by intro k;simp)) rfl rfl (by omega) (by omega) (fun v11 h11 hF11 hE11 hK11 hn11 hb11 hw11=>?_)))
  rw[<-hgl',<-hgm] at hF11;have kx11:h11.get w.1.1=_:=hE11.get (hSP w.1 (List.mem_map_of_mem hw6m));unfold ZGr at kx11;refine ZAF (h1:=h11) [0,1,2,3,4,5,6,7,8] (by kernel_rfl) rfl (by refine t_m 16 ?_;refine ZAY (i:=15) rfl rfl rfl rfl rfl (fun _=>ZCH rfl rfl (by omega) (by omega)) rfl ?_;refine t_l 14 ?_;refine t_f 13 ?_;refine t_f 12 ?_;refine t_q 11 ?_;refine t_m 10 ?_;refine t_m 9 ?_;exact ZAA rfl) rfl rfl rfl (ZAj rfl rfl (ZAO rfl) ?_);refine ZAF (h1:=h11) [0,1,2,3,4,5,6,7,8,9,10,11,12,13,14,15,17] (by kernel_rfl) rfl (by refine t_m 16 ?_;refine ZAY (i:=15) rfl rfl rfl rfl rfl (fun _=>ZCH rfl rfl (by omega) (by omega)) rfl ?_;refine t_l 14 ?_;refine t_f 13 ?_;refine t_f 12 ?_;refine t_q 11 ?_;refine t_m 10 ?_;refine t_m 9 ?_;exact ZAA rfl) rfl rfl rfl (ZAj rfl rfl (ZAO rfl) ?_)
  refine ZAF (h1:=h11) [0,1,2,3,4,5,6,7,8,9,10,11,12,13,14,15,16,17,18] (by kernel_rfl) rfl (by refine t_m 16 ?_;exact ZAA rfl) rfl rfl rfl (ZAj rfl rfl (ZAO rfl) ?_);refine ZAM (h1:=h11) (ZAA rfl) rfl ?_;refine zy ?_;have hnxa:(h10.add (.cells [i64 (w.2:Int)] 3 false)).nx=h10.nx+1:=rfl;have hbk10:bk<h10.nx:=hw10 _ _ (hE80.get hg8);refine⟨(AW,some ⟨bk,0,spk⟩,cw,v11,C++[w],sum+w.1.2.worth),?_,rfl,hE11,?_,haws,hF11,?_,?_,⟨by show 0<=sum+w.1.2.worth;omega,by show sum+w.1.2.worth<=115201000000;omega⟩,?_,rfl,rfl,rfl,rfl,rfl,rfl,rfl,trivial⟩
  ·show AW.length<L.length+1
   omega
  ·exact (hLW.ext hE80).keep fun b o sp e x hx=>hK11 b x (fun q=>by cases e;have:=hvcb _ q;omega) (hEa.get hx)
  ·show (C++[w])++choP (ivW t) 115200 W AW.length AW (sum+w.1.2.worth)=_
   rw[<-hCh,hstepC,List.append_assoc]
   rfl
  ·show (C++[w]).length+AW.length<=ws.length
   have:C.length+(L.length+1)<=ws.length:=hCl;omega
  ·intro b o sp e q
   cases e
   rcases hb11 with g|⟨c,g1,g2⟩
   ·rw[g] at q
    have:=hvcb _ q;omega
   ·have g3:some c=some bk:=g1.symm.trans q
    cases g3;have g4:h10.nx+1<=bk:=g2;omega
 ·rw[if_neg htk] at hstepC
  refine ZAJ hmix [0,0,2,6,14,30,63,0,128,384,1023,0,4095] [0,1,2,3,4,5,6,7,11] (some 8) [([],(some 9)),([10,12],none)] (by kernel_rfl) (by kernel_rfl) ?_;refine z_m ?_;refine z_m ?_;refine z_q ?_;refine z_f ?_;refine z_f ?_;refine z_l ?_;refine ZAB rfl rfl rfl rfl rfl (fun _=>ZCH rfl rfl (by omega) (by omega)) ?_;refine z_m ?_;refine z_m ?_;refine ZAF [7] (by kernel_rfl) rfl (ZAA rfl) rfl nb rfl (ZFE rfl rfl rfl rfl rfl Bod.h hprog (fun v9 h9 hR=>?_));obtain⟨q1,q2,q3,qm,rfl,hE9,⟨nq,m1,m2,m3⟩,hP9⟩:=hR;have kx9:=hE9.get kx8;have hgo9:=ZD0 hO (fun z hz=>hzs z (haws.map Prod.fst |>.subset hz)) (by rw[List.length_map];have:=haws.length_le;omega) (hpab hLW hw8 nq) 115200 (by decide) h9 [] hP9
  rw[hmm,show ((115200:Nat):Int)=115200 from rfl] at hgo9;refine ZAF [7,8] (by kernel_rfl) rfl (by refine t_m 11 ?_;refine ZAY (i:=6) rfl rfl rfl rfl rfl (fun _=>ZCH rfl rfl (by omega) (by omega)) rfl ?_;refine t_l 5 ?_;refine t_f 4 ?_;refine t_f 3 ?_;refine t_q 2 ?_;refine t_m 1 ?_;refine t_m 0 ?_;exact ZAA rfl) rfl nb rfl (ZBS (ZFE rfl rfl rfl rfl rfl Bod.h hgo9 (fun v10 h10 hR hw10=>?_)));obtain⟨rfl,hX10,-⟩:=hR;have hE80:Ext h8 h10:=hX10.ext hE9 hw8 fun c hc=>by rw[hc];exact nq
  have kx10:=hE80.get kx8;refine ZAB rfl rfl rfl rfl rfl (fun _=>ZCH rfl rfl (by omega) (by omega)) ?_;refine ZAB rfl rfl rfl rfl rfl (fun _=>A_ff htk (ZAX rfl rfl)) ?_;refine ZAM (by refine t_m 11 ?_;refine ZAY (i:=6) rfl rfl rfl rfl rfl (fun _=>ZCH rfl rfl (by omega) (by omega)) rfl ?_;refine t_l 5 ?_;refine t_f 4 ?_;refine t_f 3 ?_;refine t_q 2 ?_;refine t_m 1 ?_;refine t_m 0 ?_;exact ZAA rfl) nb' ?_;refine zy ?_;obtain⟨at1,ct1,hTl,hTb,hTA⟩:=ZSU (P:=Tryz.prog) (t:=177) (el:=152) (kj:=.i64) (show ZBl ptrZ h10 (some ⟨ba,oa,spa⟩) cL (w.1::L.map Prod.fst) from hLL.ext (hE68.trans hE80)) Und.h Tsz.h
  refine ZAI rfl rfl rfl rfl (hTA rfl rfl) ?_;refine zy ?_;refine⟨(L,at1,ct1,vc,C,sum),(by show L.length<L.length+1;omega),rfl,hE38.trans hE80,hTl,hLsub,hFC8.ext hE80,?_,?_,⟨hs0,hs1⟩,?_,rfl,rfl,rfl,rfl,rfl,rfl,rfl,trivial⟩
  ·show C++choP (ivW t) 115200 W L.length L sum=_
   rw[<-hCh,hstepC]
  ·show C.length+L.length<=ws.length
   have:C.length+(L.length+1)<=ws.length:=hCl;omega
  ·intro b o sp e q
   obtain⟨o',sp',e'⟩:=hTb b o sp e;exact hne b o' sp' e' q
def PrR (_:Heap)(row:List Value)(q:Int×Int):Prop:=row=[i64 q.1,i64 q.2]
def prGo:Int->List (Int×Int)->Int
 | _,[]=>0
 | bef,q::Q=>if (q.1<0\/115200<q.1)\/(q.2<1\/40000000<q.2) then 7 else if q.1<=bef then 2 else prGo q.1 Q
def ZB7 (t:ScT)(v:Int)(l:List ScS)(Q:List (Int×Int)):Int:=if ZA4 t v l≠0 then ZA4 t v l else if 80<Q.length then 3 else prGo (-1) Q
def ZGq (t:ScT)(Q:List (Int×Int))(c:ScS×Nat):Bool:=decide (ZBt Q (ivS t c.1)<c.1.worth)
def ZF5 (t:ScT)(v:Int)(l:List ScS)(Q:List (Int×Int)):Int×Int×Int :=
 if ZB7 t v l Q≠0 then (0,0,ZB7 t v l Q) else match (canS t v l).find? (ZGq t Q) with
 | some c=>(0,(c.2:Int),0)
 | none=>(ZCh Q,-1,0)
theorem ZJO {bef:Int}{Q:List (Int×Int)}{k:Nat}(hk:k<Q.length):prGo bef (Q.drop k)=if (Q[k].1<0\/115200<Q[k].1)\/(Q[k].2<1\/40000000<Q[k].2) then 7 else if Q[k].1<=bef then 2 else prGo Q[k].1 (Q.drop (k+1)):=by
 rw[List.drop_eq_getElem_cons hk,prGo]
theorem ZLO:∀{Q:List (Int×Int)}{bef:Int},prGo bef Q=0->∀q∈Q,(0<=q.1/\q.1<=115200)/\1<=q.2/\q.2<=40000000
 | [],_,_,_,h=>absurd h List.not_mem_nil
 | q::Q,bef,h,x,hx=>by
  rw[prGo] at h
  split at h
  ·cases h
  split at h
  ·cases h
  rcases List.mem_cons.1 hx with rfl|hx
  ·omega
  ·exact ZLO h x hx
theorem ZGm {Q:List (Int×Int)}{k:Nat}(hk:k<Q.length):ZCh (Q.take (k+1))=ZCh (Q.take k)+Q[k].2:=by
 unfold ZCh;rw[List.take_add_one,List.getElem?_eq_getElem hk,List.map_append,List.sum_append]
 show _+(Q[k].2+0)=_
 rw[Int.add_zero]
theorem ZHK {Q:List (Int×Int)}{x:Iv}{k:Nat}(hk:k<Q.length):ZBt (Q.take (k+1)) x=if x.s<=Q[k].1/\Q[k].1<=x.e-1 then ZBt (Q.take k) x+Q[k].2 else ZBt (Q.take k) x:=by
 unfold ZBt;rw[List.take_add_one,List.getElem?_eq_getElem hk,List.filter_append,List.map_append,List.sum_append]
 by_cases h:x.s<=Q[k].1/\Q[k].1<=x.e-1
 ·rw[if_pos h];simp[h]
 ·rw[if_neg h];simp[h]
theorem ZJ8 {Q:List (Int×Int)}(h:∀q∈Q,1<=q.2/\q.2<=40000000):0<=ZCh Q/\ZCh Q<=40000000*Q.length:=by
 unfold ZCh
 induction Q with
 | nil=>simp
 | cons q Q ih =>
  have h1:=h q List.mem_cons_self;have h2:=ih fun x hx=>h x (List.mem_cons_of_mem _ hx);rw[List.map_cons,List.sum_cons,List.length_cons];omega
theorem ZKL {Q:List (Int×Int)}{x:Iv}(h:∀q∈Q,1<=q.2/\q.2<=40000000):0<=ZBt Q x/\ZBt Q x<=40000000*Q.length:=by
 have h1:=ZJ8 (Q:=Q.filter fun q=>decide (x.s<=q.1/\q.1<=x.e-1)) fun q hq=>h q (List.mem_filter.1 hq).1;have h2:=List.length_filter_le (fun q:Int×Int=>decide (x.s<=q.1/\q.1<=x.e-1)) Q;unfold ZBt;unfold ZCh at h1;omega
theorem ZMw {t:ScT}{v:Int}{l:List ScS}(k:Nat):∃X,canS t v l=canS t v (l.take k)++X:=by
 refine⟨((l.drop k).zipIdx (0+(l.take k).length)).filter fun c=>decide (c.1.venue=v/\whyS t c.1=0),?_⟩;unfold canS;rw[<-List.filter_append,<-List.zipIdx_append,List.take_append_drop]
theorem ZMi {α:Type}{p:α->Bool}{l1 l2:List α}{x:α}(h:∀y∈l1,p y=false)(hx:p x=true):(l1++[x]++l2).find? p=some x:=by
 rw[List.find?_append,List.find?_append,List.find?_eq_none.2 fun y hy=>by rw[h y hy];simp];simp[hx]
theorem ZBf {t:ScT}{v:Int}{l:List ScS}{Q:List (Int×Int)}(h:¬ZB7 t v l Q=0):ZF5 t v l Q=(0,0,ZB7 t v l Q):=by unfold ZF5;rw[if_pos h]
theorem ZKP {t:ScT}{v:Int}{l:List ScS}{Q:List (Int×Int)}{c:ScS×Nat}(h:ZB7 t v l Q=0)(hf:(canS t v l).find? (ZGq t Q)=some c):ZF5 t v l Q=(0,(c.2:Int),0):=by unfold ZF5;rw[if_neg (fun q=>q h),hf]
theorem ZJ6 {t:ScT}{v:Int}{l:List ScS}{Q:List (Int×Int)}(h:ZB7 t v l Q=0)(hf:∀c∈canS t v l,ZGq t Q c=false):ZF5 t v l Q=(ZCh Q,-1,0):=by
 unfold ZF5;rw[if_neg (fun q=>q h),List.find?_eq_none.2 fun c hc=>by rw[hf c hc];simp]
def covV (r:Int×Int×Int):Value:=.tuple ⟨[i64 r.1,i64 r.2.1,i64 r.2.2]⟩
set_option maxHeartbeats 16000000 in
theorem ZMz {tc:List Value}{t:ScT}{v:Int}{l:List ScS}{Q:List (Int×Int)}{al aq:Option Addr}{cl cq:Nat}{h:Heap}(ht:ZBX h tc t)(hT:t.Fit)(hv:I64 v)(hl:ZAN 6 ScSR h al l)(hlF:∀s∈l,s.Fit)(hL:Len l)(hQ:ZAN 2 PrR h aq Q)(hLQ:Len Q):Sv Tryz.prog 45 [.agg ⟨tc⟩,i64 v,.slice al l.length cl,.slice aq Q.length cq] h (RetP fun r h'=>r=covV (ZF5 t v l Q)/\Ext h h'):=by
 have ht0:=ht;obtain⟨xl,cxl,at',ct,a1,c1,a2,c2,a3,c3,a4,c4,a5,c5,a6,c6,rfl,-⟩:=ht;refine ZAy fun hw=>?_;refine ZAH Tryz.func45 rfl (by rw[Tryz.ntmps45];rfl) ?_;show Wc Tryz.prog ⟨45,107,none⟩ _ _ _ _ _;refine zy ?_;refine ZAa rfl rfl rfl fun h2 hE2 hW2 hg2 hn2=>?_;refine zy ?_;refine ZAq rfl rfl rfl rfl rfl Bod.h rfl rfl (ZE8 (ht0.ext hE2) hT hv (ZAN.ext (R:=ScSR) (fun x _=>x) hl hE2) hlF hL) ?_;rintro _ h3 ⟨hE3,⟨he,rfl⟩|⟨he,hO,-,a,cap,ai,ci,bH,ws,rfl,hws,hLA,hIn,hSP,hHo,hnd,hwl,hsh,hab⟩⟩
 ·have e:ZB7 t v l Q=ZA4 t v l:=by unfold ZB7;rw[if_pos he]
  have e2:=ZBf (t:=t) (v:=v) (l:=l) (Q:=Q) (by rw[e];exact he);rw[e2,e];refine zy ?_;refine ZAE rfl rfl rfl rfl (ZAb rfl rfl) (fun h4=>?_) (fun h4=>?_)
  ·refine zy ?_
   exact ZAC (ZAD rfl ⟨rfl,hE2.trans hE3⟩)
  ·exact absurd (Decidable.not_not.1 h4) he
 have hE:=hE2.trans hE3;clear hE2 hE3 hg2 hW2 hn2 hab;clear h2;replace hQ:=ZAN.ext (R:=PrR) (fun x _=>x) hQ hE;have hEz:ZA4 t v l=0->ZB7 t v l Q=if 80<Q.length then 3 else prGo (-1) Q:=fun he=>by unfold ZB7;rw[if_neg (fun q=>q he)]
 replace hEz:=hEz he;refine zy ?_;refine ZAE rfl rfl rfl rfl (ZAb rfl rfl) (fun h4=>?_) (fun h4=>?_)
 ·exact absurd rfl h4
 clear h4;refine zy ?_;refine ZAE rfl rfl rfl rfl (ZB0 rfl rfl) (fun h4=>?_) (fun h4=>?_)
 ·rw[if_pos (by omega)] at hEz
  rw[ZBf (by rw[hEz];decide),hEz];refine zy ?_;exact ZAC (ZAD rfl ⟨rfl,hE⟩)
 rw[if_neg (by omega)] at hEz;have hQl:Q.length<=80:=by omega
 clear h4;refine zy ?_
 refine ZAT (fun (s:Nat×Int×Int) m ds h'=>ds=[]/\s.1<=Q.length/\Ext h3 h'/\prGo (-1) Q=prGo s.2.1 (Q.drop s.1)/\s.2.2=ZCh (Q.take s.1)/\(0<=s.2.2/\s.2.2<=40000000*s.1) ∧
   AllK m [(3,.slice aq Q.length cq),(8,i64 s.2.2),(11,.slice a (ws.map Prod.fst).length cap),(12,.slice ai (ws.map Prod.snd).length ci),(13,i64 s.2.1),(37,.slice aq Q.length cq),(38,i64 Q.length),(39,i64 s.1)]) (fun s=>Q.length-s.1) (0,-1,0) ?_ ?_
 ·exact⟨rfl,Nat.zero_le _,Ext.refl _,rfl,rfl,⟨by decide,by decide⟩,rfl,rfl,rfl,rfl,rfl,rfl,rfl,rfl,trivial⟩
 rintro⟨k,bef,bd⟩ m ds h4 ⟨rfl,hk,hE4,hgo,hbd,⟨bd0,bd1⟩,hall⟩;simp only at hk hgo hbd bd0 bd1 hall;refine Wc.le ?_ (Le.kn hall);clear hall;refine zy ?_;refine ZAE rfl rfl rfl rfl (ZAW rfl rfl) (fun hkl=>?_) (fun hkl=>?_)
 ·have hk':k<Q.length:=by omega
  have hdr:=ZJO (bef:=bef) hk';have htt:=ZGm hk';obtain⟨bq,oq,oaq,rfl,rowq,hrowq,hrq⟩:=hQ k hk';generalize Q[k]=q at *;obtain rfl:=hrq;have hrow4:=hE4.row hrowq;refine zy ?_;refine ZAI rfl rfl rfl rfl (A_ix Und.h Tsz.h rfl rfl) ?_;refine zy ?_;refine ZAh rfl rfl Zr.h Tsz.h rfl (fun _=>rfl) rfl rfl rfl fun h5 hE5 hW5 hg5 hn5=>?_;have hE35:=hE4.trans hE5;refine zy ?_;refine ZAP rfl rfl rfl rfl rfl Bod.h rfl rfl (ZA9 _ _ _ _) (fun c1=>?_) (fun c1=>?_)
  ·replace c1:=of_decide_eq_true c1
   rw[if_pos (.inl c1)] at hdr;rw[ZBf (by rw[hEz,hgo,hdr];decide),hEz,hgo,hdr];refine zy ?_;exact ZAC (ZAD rfl ⟨rfl,hE.trans hE35⟩)
  replace c1:=of_decide_eq_false c1;refine zy ?_;refine ZAP rfl rfl rfl rfl rfl Bod.h rfl rfl (ZA9 _ _ _ _) (fun c2=>?_) (fun c2=>?_)
  ·replace c2:=of_decide_eq_true c2
   rw[if_pos (.inr c2)] at hdr;rw[ZBf (by rw[hEz,hgo,hdr];decide),hEz,hgo,hdr];refine zy ?_;exact ZAC (ZAD rfl ⟨rfl,hE.trans hE35⟩)
  replace c2:=of_decide_eq_false c2;rw[if_neg (fun q=>q.elim c1 c2)] at hdr;refine zy ?_;refine ZAE rfl rfl rfl rfl (ZD7 rfl rfl) (fun c3=>?_) (fun c3=>?_)
  ·rw[if_pos c3] at hdr
   rw[ZBf (by rw[hEz,hgo,hdr];decide),hEz,hgo,hdr];refine zy ?_;exact ZAC (ZAD rfl ⟨rfl,hE.trans hE35⟩)
  rw[if_neg c3] at hdr;refine zy ?_;refine ZAJ hmix [0,1,0,0,8,28,3,127] [0,1,2,3,4,5] (some 6) [([],(some 7)),([],none)] (by kernel_rfl) (by kernel_rfl) ?_;refine z_f ?_;refine z_l ?_;refine z_m ?_;refine z_f ?_;refine z_l ?_;refine ZAB rfl rfl rfl rfl rfl (fun _=>ZCH rfl rfl (by omega) (by omega)) ?_;refine ZAF [0,1] (by kernel_rfl) rfl (ZAA rfl) rfl nb rfl (ZAj rfl rfl (ZAO rfl) ?_);refine ZAF [0,1,2,3,4,5,6] (by kernel_rfl) rfl (by refine ZAY (i:=5) rfl rfl rfl rfl rfl (fun _=>ZCH rfl rfl (by omega) (by omega)) rfl ?_;refine t_l 4 ?_;refine t_f 3 ?_;refine t_m 2 ?_;exact ZAA rfl) rfl nb rfl (ZAj rfl rfl (ZAO rfl) ?_)
  refine ZAM (ZAA rfl) nb' ?_;refine zy ?_;exact⟨(k+1,q.1,bd+q.2),(by show Q.length-(k+1)<Q.length-k;omega),rfl,hk',hE35,(by rw[hgo,hdr]),(by show bd+q.2=_;rw[htt,hbd]),⟨by show 0<=bd+q.2;omega,by show bd+q.2<=40000000*((k+1:Nat):Int);omega⟩,rfl,rfl,rfl,rfl,rfl,rfl,rfl,rfl,trivial⟩
 have:k=Q.length:=by omega
 subst this;rw[List.drop_length] at hgo;rw[List.take_length] at hbd;have hg0:prGo (-1) Q=0:=hgo;have hE0:ZB7 t v l Q=0:=by rw[hEz,hg0]
 have hQr:=ZLO hg0;replace hQ:=ZAN.ext (R:=PrR) (fun x _=>x) hQ hE4;replace hE:=hE.trans hE4;replace hLA:=hLA.ext hE4;replace hSP:=ZCg.ext hSP hE4;replace hIn:=hIn.ext hE4;clear hgo hEz hE4 hHo
 have hwc:∀k (hk:k<ws.length),(canS t v l)[k]?=some (ws[k].1.2,ws[k].2):=fun k hk=>by
  rw[<-hws,List.getElem?_map,List.getElem?_eq_getElem hk];rfl
 refine zy ?_
 refine ZAT (fun (i:Nat) m ds h'=>ds=[]/\i<=ws.length/\Ext h4 h'/\(∀j (hj:j<ws.length),j<i->ZGq t Q (ws[j].1.2,ws[j].2)=false) ∧
   AllK m [(3,.slice aq Q.length cq),(8,i64 bd),(12,.slice ai (ws.map Prod.snd).length ci),(64,.slice a (ws.map Prod.fst).length cap),(65,i64 (ws.map Prod.fst).length),(66,i64 i)]) (fun i=>ws.length-i) 0 ?_ ?_
 ·exact⟨rfl,Nat.zero_le _,Ext.refl _,(fun _ _ hj=>absurd hj (Nat.not_lt_zero _)),rfl,rfl,rfl,rfl,rfl,rfl,trivial⟩
 rintro i m ds h5 ⟨rfl,hi,hE5,hno,hall⟩;refine Wc.le ?_ (Le.kn hall);clear hall;have hml:(ws.map Prod.fst).length=ws.length:=List.length_map _;refine zy ?_;refine ZAE rfl rfl rfl rfl (ZAW rfl rfl) (fun hil=>?_) (fun hil=>?_);rotate_left
 ·have hi2:i=ws.length:=by omega
  rw[ZJ6 hE0 fun c hc=>by
   rw[<-hws] at hc;obtain⟨w,hw2,rfl⟩:=List.mem_map.1 hc;obtain⟨j,hj,rfl⟩:=List.getElem_of_mem hw2;exact hno j hj (by omega)]
  rw[hbd];refine zy ?_;exact ZAC (ZAD rfl ⟨rfl,hE.trans hE5⟩)
 have hi':i<ws.length:=by omega
 obtain⟨bA,oA,oaA,rfl,hcA⟩:=hLA.li i (by omega);rw[List.getElem_map] at hcA;obtain⟨bI,oI,oaI,rfl,hcI⟩:=hIn i (by rw[List.length_map];exact hi');rw[List.getElem_map] at hcI;have hx0:=hsh _ (List.getElem_mem hi');have hSx:=hSP ws[i].1 (List.mem_map_of_mem (List.getElem_mem hi'))
 have hno2:ZGq t Q (ws[i].1.2,ws[i].2)=false->∀j (hj:j<ws.length),j<i+1->ZGq t Q (ws[j].1.2,ws[j].2)=false:=fun e j hj hlt=>by
  rcases Nat.lt_or_ge j i with g|g
  ·exact hno j hj g
  ·have:j=i:=by omega
   subst this;exact e
 have hfi:ZGq t Q (ws[i].1.2,ws[i].2)=true->(canS t v l).find? (ZGq t Q)=some (ws[i].1.2,ws[i].2):=fun e=>by
  rw[List.find?_eq_some_iff_getElem];have hil2:i<(canS t v l).length:=by rw[<-hws,List.length_map];exact hi'
  refine⟨e,i,hil2,?_,fun j hj=>?_⟩
  ·have:=hwc i hi'
   rw[List.getElem?_eq_getElem hil2] at this;exact Option.some.inj this
  ·have hjw:j<ws.length:=by omega
   have hj2:j<(canS t v l).length:=by omega
   have h1:=hwc j hjw;rw[List.getElem?_eq_getElem hj2] at h1;have h2:=Option.some.inj h1;rw[h2,hno j hjw hj];rfl
 generalize ws[i]=w at *;have hc5:=hE5.cell hcA;obtain⟨o1,o2,o3,o4,o5⟩:=ZEQ hO hx0;obtain⟨-,-,-,-,w1,w2⟩:=ZAo hx0;have hkx:=hSx;unfold ZBU ZGr at hkx;refine zy ?_;refine ZAI rfl rfl rfl rfl (A_ix Und.h Tsz.h rfl rfl) ?_;refine zy ?_
 refine Wc.mono (Q:=fun z m' ds' h'=>z=.exit 6/\ds'=[]/\Ext h4 h'/\AllK m' [(3,.slice aq Q.length cq),(8,i64 bd),(12,.slice (some ⟨bI,oI,oaI⟩) (ws.map Prod.snd).length ci),(16,i64 i),(17,ptrZ w.1),(18,i64 (ZBt Q (ivS t w.1.2))),(64,.slice (some ⟨bA,oA,oaA⟩) (ws.map Prod.fst).length cap),(65,i64 (ws.map Prod.fst).length),(66,i64 i)])
  (ZAT (fun (k:Nat) m ds h'=>ds=[]/\k<=Q.length/\Ext h4 h'/\AllK m [(3,.slice aq Q.length cq),(8,i64 bd),(12,.slice (some ⟨bI,oI,oaI⟩) (ws.map Prod.snd).length ci),(16,i64 i),(17,ptrZ w.1),(18,i64 (ZBt (Q.take k) (ivS t w.1.2))),(64,.slice (some ⟨bA,oA,oaA⟩) (ws.map Prod.fst).length cap),(65,i64 (ws.map Prod.fst).length),(66,i64 i),(71,.slice aq Q.length cq),(72,i64 Q.length),(73,i64 k)]) (fun k=>Q.length-k) 0 ?_ ?_) ?_
 ·exact⟨rfl,Nat.zero_le _,hE5,rfl,rfl,rfl,rfl,rfl,rfl,rfl,rfl,rfl,rfl,rfl,rfl,trivial⟩
 ·clear hE5 hc5
  clear h5;rintro k m ds h5 ⟨rfl,hk,hE5,hall⟩;refine Wc.le ?_ (Le.kn hall);clear hall;refine zy ?_;refine ZAE rfl rfl rfl rfl (ZAW rfl rfl) (fun hkl=>?_) (fun hkl=>?_);rotate_left
  ·have:k=Q.length:=by omega
   subst this;rw[List.take_length];refine zy ?_;exact⟨rfl,rfl,hE5,rfl,rfl,rfl,rfl,rfl,rfl,rfl,rfl,rfl,trivial⟩
  have hk':k<Q.length:=by omega
  have hst:ZBt (Q.take (k+1)) (ivS t w.1.2)=if w.1.2.minute<=Q[k].1/\Q[k].1<=ZA0 t w.1.2-1 then ZBt (Q.take k) (ivS t w.1.2)+Q[k].2 else ZBt (Q.take k) (ivS t w.1.2):=ZHK hk'
  have hcr:=ZKL (Q:=Q.take k) (x:=ivS t w.1.2) fun q hq=>(hQr q (List.mem_of_mem_take hq)).2;rw[List.length_take] at hcr;have hqr:=hQr _ (List.getElem_mem hk');obtain⟨bq,oq,oaq,rfl,rowq,hrowq,hrq⟩:=hQ k hk';generalize Q[k]=q at *;obtain rfl:=hrq;have hrow5:=hE5.row hrowq;generalize ZBt (Q.take k) (ivS t w.1.2)=cu at *;refine zy ?_;refine ZAI rfl rfl rfl rfl (A_ix Und.h Tsz.h rfl rfl) ?_;refine zy ?_;refine ZAh rfl rfl Zr.h Tsz.h rfl (fun _=>rfl) rfl rfl rfl fun h6 hE6 hW6 hg6 hn6=>?_;have hE46:=hE5.trans hE6;have hov:=ZG7 (hSx.ext hE46) hO hx0;have kx6:=hE46.get hkx;refine zy ?_
  by_cases hc:w.1.2.minute<=q.1/\q.1<=ZA0 t w.1.2-1
  ·rw[if_pos hc] at hst
   have hou:=fun h=>ZOp (show ¬(q.1<w.1.2.minute\/ZA0 t w.1.2-1<q.1) by omega) (ZA9 q.1 w.1.2.minute (ZA0 t w.1.2-1) h);generalize ZA0 t w.1.2=ov at *;refine ZAJ hmix [0,1,0,4,12,28,60,0,128,384,1023,2047] [0,1,2,3,4,5,6,7] (some 8) [([9],(some 10)),([11],none)] (by kernel_rfl) (by kernel_rfl) ?_;refine z_f ?_;refine z_l ?_;refine z_m ?_;refine z_q ?_;refine z_f ?_;refine z_f ?_;refine z_l ?_;refine z_m ?_;refine ZAF [7] (by kernel_rfl) rfl (ZAA rfl) rfl nb rfl (ZAs rfl rfl rfl rfl rfl Bod.h hov ?_);refine ZAB rfl rfl rfl rfl rfl (fun _=>ZE7 rfl rfl (by omega) (by omega)) ?_;refine ZAF [0,1,2,3,4,5,6,7,8,9] (by kernel_rfl) rfl (by refine t_l 6 ?_;refine t_f 5 ?_;refine t_f 4 ?_;refine t_q 3 ?_;refine t_m 2 ?_;refine t_l 1 ?_;refine t_f 0 ?_;exact ZAA rfl) rfl nb rfl (ZAs rfl rfl rfl rfl rfl Bod.h (hou _) ?_)
   refine z_n ?_;refine ZAM (ZAA rfl) nb' ?_;refine zy ?_;exact⟨k+1,(by show Q.length-(k+1)<Q.length-k;omega),rfl,hk',hE46,rfl,rfl,rfl,rfl,rfl,(by rw[hst];rfl),rfl,rfl,rfl,rfl,rfl,rfl,trivial⟩
  ·rw[if_neg hc] at hst
   have hou:=fun h=>ZOu (show (q.1<w.1.2.minute\/ZA0 t w.1.2-1<q.1) by omega) (ZA9 q.1 w.1.2.minute (ZA0 t w.1.2-1) h);generalize ZA0 t w.1.2=ov at *;refine ZAJ hmix [0,1,0,4,12,28,60,0,128,384,1023,2047] [0,1,2,3,4,5,6,7] (some 8) [([9],(some 10)),([11],none)] (by kernel_rfl) (by kernel_rfl) ?_;refine z_f ?_;refine z_l ?_;refine z_m ?_;refine z_q ?_;refine z_f ?_;refine z_f ?_;refine z_l ?_;refine z_m ?_;refine ZAF [7] (by kernel_rfl) rfl (ZAA rfl) rfl nb rfl (ZAs rfl rfl rfl rfl rfl Bod.h hov ?_);refine ZAB rfl rfl rfl rfl rfl (fun _=>ZE7 rfl rfl (by omega) (by omega)) ?_;refine ZAF [0,1,2,3,4,5,6,7,8,9] (by kernel_rfl) rfl (by refine t_l 6 ?_;refine t_f 5 ?_;refine t_f 4 ?_;refine t_q 3 ?_;refine t_m 2 ?_;refine t_l 1 ?_;refine t_f 0 ?_;exact ZAA rfl) rfl nb rfl (ZAs rfl rfl rfl rfl rfl Bod.h (hou _) ?_)
   refine z_n ?_;refine ZAM (ZAA rfl) nb' ?_;refine zy ?_;exact⟨k+1,(by show Q.length-(k+1)<Q.length-k;omega),rfl,hk',hE46,rfl,rfl,rfl,rfl,rfl,(by rw[hst];rfl),rfl,rfl,rfl,rfl,rfl,rfl,trivial⟩
 clear hE5 hc5;rintro _ m' ds' h6 ⟨rfl,rfl,hE6,hall⟩
 show Wc _ _ _ _ _ _ _
 refine Wc.le ?_ (Le.kn hall);clear hall;clear h5;have kx6:=hE6.get hkx;have ci6:=hE6.cell hcI;have hfd:ZGq t Q (w.1.2,w.2)=decide (ZBt Q (ivS t w.1.2)<w.1.2.worth):=rfl;refine zy ?_;refine ZAE rfl rfl rfl rfl (ZAW rfl rfl) (fun hf=>?_) (fun hf=>?_)
 ·rw[ZKP hE0 (hfi (by rw[hfd];exact decide_eq_true hf))]
  refine zy ?_;refine ZAJ hmix [0,0,3,7,0,31,63] [0,1,2,3] (some 4) [([],(some 5)),([],(some 6)),([],none)] (by kernel_rfl) (by kernel_rfl) ?_;refine z_m ?_;refine z_m ?_;refine ZAB rfl rfl rfl rfl rfl (fun _=>A_ix (k:=i) Und.h Tsz.h rfl rfl (hlt:=by rw[List.length_map];exact hi')) ?_;refine z_l ?_;refine ZAF [] (by kernel_rfl) rfl (ZAA rfl) rfl nb rfl (ZAj rfl rfl (ZAO rfl) ?_);refine ZAF [0,1,2,3,4] (by kernel_rfl) rfl (by refine t_l 3 ?_;refine ZAY (i:=2) rfl rfl rfl rfl rfl (fun _=>A_ix (k:=i) Und.h Tsz.h rfl rfl (hlt:=by rw[List.length_map];exact hi')) rfl ?_;refine t_m 1 ?_;refine t_m 0 ?_;exact ZAA rfl) rfl nb rfl (ZAj rfl rfl (ZAO rfl) ?_)
  refine ZAF [0,1,2,3,4,5] (by kernel_rfl) rfl (ZAA rfl) rfl nb rfl (ZAj rfl rfl (ZAO rfl) ?_);refine ZAM (ZAA rfl) nb' ?_;refine zy ?_;exact ZAC (ZAD rfl ⟨rfl,hE.trans hE6⟩)
 ·refine zy ?_
  exact⟨i+1,(by show ws.length-(i+1)<ws.length-i;omega),rfl,hi',hE6,hno2 (by rw[hfd];exact decide_eq_false hf),rfl,rfl,rfl,rfl,rfl,rfl,trivial⟩
structure MoG (h:Heap)(b3 b8 b9 n:Nat)(tc:List Value)(dn:Nat->Bool)(en:Nat->Int):Prop where
 g3:h.get b3=some (.cells tc 31 false)
 g8:h.get b8=some (.cells (fnL n fun k=>i64 (en k)) 3 false)
 g9:h.get b9=some (.cells (fnL n fun k=>.bool (dn k)) 4 false)
theorem MoG.ext {h h':Heap}{b3 b8 b9 n:Nat}{tc:List Value}{dn:Nat->Bool}{en:Nat->Int}(g:MoG h b3 b8 b9 n tc dn en)(he:Ext h h'):MoG h' b3 b8 b9 n tc dn en:=⟨he.get g.g3,he.get g.g8,he.get g.g9⟩
theorem MoG.c8 {h:Heap}{b3 b8 b9 n k:Nat}{tc:List Value}{dn:Nat->Bool}{en:Nat->Int}(g:MoG h b3 b8 b9 n tc dn en)(hk:k<n):ZAc h b8 (0+k*1)=some (i64 (en k)):=ZAk g.g8 (by rw[ZA7,Nat.zero_add,Nat.mul_one,ZL3 hk])
theorem MoG.c9 {h:Heap}{b3 b8 b9 n k:Nat}{tc:List Value}{dn:Nat->Bool}{en:Nat->Int}(g:MoG h b3 b8 b9 n tc dn en)(hk:k<n):ZAc h b9 (0+k*1)=some (.bool (dn k)):=ZAk g.g9 (by rw[ZA7,Nat.zero_add,Nat.mul_one,ZL3 hk])
theorem MoG.s8 {h h':Heap}{b3 b8 b9 n i:Nat}{tc:List Value}{dn:Nat->Bool}{en:Nat->Int}{v:Int}(g:MoG h b3 b8 b9 n tc dn en)(h38:b3≠b8)(h98:b9≠b8)(hU:Upd h b8 (.cells ((fnL n fun k=>i64 (en k)).set (0+i*1) (i64 v)) 3 false) h'):MoG h' b3 b8 b9 n tc dn (updB en i v) :=
 ⟨hU.get h38 g.g3,by
  rw[hU.at',Nat.zero_add,Nat.mul_one,ZOP,ZJz (g:=fun k=>i64 (updB en i v k)) fun k _=>by unfold updB;split <;> rfl],hU.get h98 g.g9⟩
theorem MoG.s9 {h h':Heap}{b3 b8 b9 n i:Nat}{tc:List Value}{dn:Nat->Bool}{en:Nat->Int}{v:Bool}(g:MoG h b3 b8 b9 n tc dn en)(h39:b3≠b9)(h89:b8≠b9)(hU:Upd h b9 (.cells ((fnL n fun k=>Value.bool (dn k)).set (0+i*1) (.bool v)) 4 false) h'):MoG h' b3 b8 b9 n tc (updB dn i v) en :=
 ⟨hU.get h39 g.g3,hU.get h89 g.g8,by
  rw[hU.at',Nat.zero_add,Nat.mul_one,ZOP,ZJz (g:=fun k=>Value.bool (updB dn i v k)) fun k _=>by unfold updB;split <;> rfl]⟩
theorem ZOb (n:Nat)(z:Value):rep n [z]=fnL n fun _=>z:=by
 unfold fnL
 induction n with
 | zero=>rfl
 | succ n ih =>
  rw[ZEE,ih,List.range_succ,List.map_append]
  show z::(List.range n).map (fun _=>z)=_
  rw[List.map_const'];simp[List.replicate_succ'];rw[<-List.replicate_succ,List.replicate_succ']
theorem ZNh (N:Nat):ZBM (fun _=>false) N=[]:=by unfold ZBM;simp
def noS:ScS:=⟨0,0,0,0,0,0⟩
def sAt (l:List ScS)(k:Nat):ScS:=l.getD k noS
theorem ZFZ {l:List ScS}{k:Nat}(hk:k<l.length):l[k]=sAt l k:=by unfold sAt;rw[List.getD_eq_getElem?_getD,List.getElem?_eq_getElem hk];rfl
theorem ZNv {t:ScT}{l:List ScS}(x:Iv):x∈l.map (ivS t) ↔ ∃k,k<l.length/\ivS t (sAt l k)=x:=by
 constructor
 ·intro h
  obtain⟨s,hs,rfl⟩:=List.mem_map.1 h;obtain⟨k,hk,rfl⟩:=List.getElem_of_mem hs;exact⟨k,hk,by rw[ZFZ hk]⟩
 ·rintro⟨k,hk,rfl⟩
  rw[<-ZFZ hk];exact List.mem_map_of_mem (List.getElem_mem hk)
theorem ZP9 {β:Type}{f:Nat->β}{i:Nat}{v w:β}:updB (updB f i v) i w=updB f i w:=by
 funext k
 unfold updB
 split <;> rfl
set_option maxHeartbeats 8000000 in
theorem ZFj {tc:List Value}{t:ScT}{l:List ScS}{al:Option Addr}{cl:Nat}{b:Int}{h:Heap}(ht:ZBX h tc t)(hO:ScOk t)(hl:ZAN 6 ScSR h al l)(hs0:∀s∈l,ZAQ t s=0)(hlen:l.length<=40)(hb:0<=b):Sv Tryz.prog 114 [.agg ⟨tc⟩,.slice al l.length cl,i64 b] h (RetP fun v h'=>v=i64 (ZBH (l.map (ivS t)) b)/\Ext h h'):=by
 have ht0:=ht;obtain⟨xl,cxl,at',ct,a1,c1,a2,c2,a3,c3,a4,c4,a5,c5,a6,c6,rfl,-⟩:=ht;have hov:=fun {h':Heap} (hE:Ext h h') {s:ScS} (hs:ZAQ t s=0)=>ZDI (ht0.ext hE) hO hs (rfl:ScSR h' _ s);have hI:∀x,x∈l.map (ivS t) ↔ ∃k,k<l.length/\ivS t (sAt l k)=x:=ZNv;have hsx:∀{k:Nat},k<l.length->ZAQ t (sAt l k)=0:=fun {k} hk=>by rw[<-ZFZ hk];exact hs0 _ (List.getElem_mem hk)
 have hok:∀x∈l.map (ivS t),x.Ok:=fun x hx=>by
  obtain⟨s,hs,rfl⟩:=List.mem_map.1 hx;exact ZGd (z:=(0,s)) hO (hs0 s hs)
 have hokw:∀x∈l.map (ivS t),x.w<=1000000:=fun x hx=>by
  obtain⟨s,hs,rfl⟩:=List.mem_map.1 hx;obtain⟨-,-,-,-,w1,w2⟩:=ZAo (hs0 s hs);exact w2
 have hEn:∀{k:Nat},k<l.length->0<=endI (l.map (ivS t)) (ivS t (sAt l k))/\endI (l.map (ivS t)) (ivS t (sAt l k))<=57601000000:=fun {k} hk=>by
  obtain⟨-,-,⟨m1,m2⟩,-,w1,w2⟩:=ZAo (hsx hk);have h1:=ZBo hok m1;have h2:=ZDm hok hokw (sAt l k).minute.toNat;rw[Int.toNat_of_nonneg m1] at h2;have h3:endI (l.map (ivS t)) (ivS t (sAt l k))=(sAt l k).worth+ZBH (l.map (ivS t)) (sAt l k).minute:=rfl;omega
 generalize hIq:l.map (ivS t)=I at *;refine ZAy fun hw=>?_;refine ZAH Tryz.func114 rfl (by rw[Tryz.ntmps114];rfl) ?_;show Wc Tryz.prog ⟨114,130,none⟩ _ _ _ _ _;refine zy ?_;refine ZAa rfl rfl rfl fun h1 hE1 hW1 hg1 hn1=>?_;refine zy ?_;refine ZF4 (k:=l.length) rfl rfl Und.h (by':=8) inferInstance Zr.h rfl rfl rfl (by omega) (by omega) fun h2 hE2 hW2 hg2 hn2=>?_;refine zy ?_;refine ZF4 (k:=l.length) rfl rfl Und.h (by':=1) inferInstance Zr.h rfl rfl rfl (by omega) (by omega) fun h3 hE3 hW3 hg3 hn3=>?_;have hb8:h1.nx≠h.nx/\h2.nx≠h.nx/\h1.nx≠h2.nx:=by omega
 have hbn:h.nx<=h1.nx/\h.nx<=h2.nx:=by omega
 have hG0:MoG h3 h.nx h1.nx h2.nx l.length [i64 t.first,.slice xl t.lands.length cxl,.slice at' t.travel.length ct,.slice a1 t.venues.length c1,.slice a2 t.rights.length c2,.slice a3 t.prints.length c3,.slice a4 t.packs.length c4,.slice a5 t.keys.length c5,.slice a6 t.loans.length c6] (fun _=>false) (fun _=>0):=⟨hE3.get (hE2.get hg1),by rw[<-ZOb];exact hE3.get hg2,by rw[<-ZOb];exact hg3⟩;have hE03:=(hE1.trans hE2).trans hE3;clear hg1 hg2 hg3 hE1 hE2 hE3 hW1 hW2 hW3 hn1 hn2 hn3;have hnb:h.nx<=h.nx:=Nat.le_refl _;generalize hq3:h.nx=b3 at hG0 hb8 hnb ⊢;generalize h1.nx=b8 at *;generalize h2.nx=b9 at *
 obtain⟨n83,n93,n89⟩:=hb8;obtain⟨m8,m9⟩:=hbn;refine zy ?_
 refine ZAT (fun (s:Nat×Int×(Nat->Bool)×(Nat->Int)) m ds h'=>ds=[]/\s.1<=l.length/\Ext h h'/\MoG h' b3 b8 b9 l.length [i64 t.first,.slice xl t.lands.length cxl,.slice at' t.travel.length ct,.slice a1 t.venues.length c1,.slice a2 t.rights.length c2,.slice a3 t.prints.length c3,.slice a4 t.packs.length c4,.slice a5 t.keys.length c5,.slice a6 t.loans.length c6] s.2.2.1 s.2.2.2/\ZJu I (fun k=>ivS t (sAt l k)) l.length s.1 s.2.2.1 s.2.2.2/\s.2.1=ZBs (fun y:Iv=>y.e<=b) (endI I) 0 ((ZBM s.2.2.1 l.length).map fun k=>ivS t (sAt l k)) ∧
   AllK m [(1,.slice al l.length cl),(2,i64 b),(3,.pointer (some ⟨b3,0,none⟩)),(7,i64 s.2.1),(8,.slice (some ⟨b8,0,none⟩) l.length l.length),(9,.slice (some ⟨b9,0,none⟩) l.length l.length),(10,i64 s.1)]) (fun s=>l.length-s.1) (0,0,(fun _=>false),(fun _=>0)) ?_ ?_
 ·exact⟨rfl,Nat.zero_le _,hE03,hG0,ZJu.zero _ _ _ _,by rw[ZNh];rfl,rfl,rfl,rfl,rfl,rfl,rfl,rfl,trivial⟩
 clear hG0 hE03;clear h1 h2 h3;rintro⟨n,best,dn,en⟩ m ds h1 ⟨rfl,hn,hE1,hG1,hM,hbest,hall⟩;simp only at hn hG1 hM hbest hall;refine Wc.le ?_ (Le.kn hall);clear hall;refine zy ?_;refine ZAE rfl rfl rfl rfl (ZAW rfl rfl) (fun hlt=>?_) (fun hlt=>?_);rotate_left
 ·have:n=l.length:=by omega
  subst this;rw[ZQG hI hok hM hb] at hbest;refine zy ?_;exact ZAC (ZAD rfl ⟨by rw[hbest];rfl,hE1⟩)
 have hnl:n<l.length:=by omega
 obtain⟨a0,ha0,hda0⟩:=ZRj (dn:=dn) (N:=l.length) (by rw[hM.cnt];exact hnl);refine zy ?_
 refine Wc.mono (Q:=fun z m' ds' h'=>z=.exit 2/\ds'=[]/\Ext h h'/\MoG h' b3 b8 b9 l.length [i64 t.first,.slice xl t.lands.length cxl,.slice at' t.travel.length ct,.slice a1 t.venues.length c1,.slice a2 t.rights.length c2,.slice a3 t.prints.length c3,.slice a4 t.packs.length c4,.slice a5 t.keys.length c5,.slice a6 t.loans.length c6] dn en/\∃i:Nat,i<l.length/\dn i=false/\(∀a,a<l.length->dn a=false->ZA0 t (sAt l i)<=ZA0 t (sAt l a))/\AllK m' [(1,.slice al l.length cl),(2,i64 b),(3,.pointer (some ⟨b3,0,none⟩)),(7,i64 best),(8,.slice (some ⟨b8,0,none⟩) l.length l.length),(9,.slice (some ⟨b9,0,none⟩) l.length l.length),(10,i64 n),(11,i64 (i:Nat))])
  (ZAT (fun (s:Nat×Int) m ds h'=>ds=[]/\s.1<=l.length/\Ext h h'/\MoG h' b3 b8 b9 l.length [i64 t.first,.slice xl t.lands.length cxl,.slice at' t.travel.length ct,.slice a1 t.venues.length c1,.slice a2 t.rights.length c2,.slice a3 t.prints.length c3,.slice a4 t.packs.length c4,.slice a5 t.keys.length c5,.slice a6 t.loans.length c6] dn en/\((s.2 = -1/\∀a,a<s.1->dn a=true)\/∃j:Nat,s.2=j/\j<s.1/\dn j=false/\∀a,a<s.1->dn a=false->ZA0 t (sAt l j)<=ZA0 t (sAt l a))/\AllK m [(1,.slice al l.length cl),(2,i64 b),(3,.pointer (some ⟨b3,0,none⟩)),(7,i64 best),(8,.slice (some ⟨b8,0,none⟩) l.length l.length),(9,.slice (some ⟨b9,0,none⟩) l.length l.length),(10,i64 n),(11,i64 s.2),(12,i64 s.1)]) (fun s=>l.length-s.1) (0,-1) ?_ ?_) ?_
 ·exact⟨rfl,Nat.zero_le _,hE1,hG1,.inl ⟨rfl,fun a ha=>absurd ha (Nat.not_lt_zero _)⟩,rfl,rfl,rfl,rfl,rfl,rfl,rfl,rfl,rfl,trivial⟩
 ·clear hE1 hG1
  clear h1;rintro⟨k,x⟩ m ds h1 ⟨rfl,hk,hE1,hG1,hx,hall⟩;simp only at hk hx hall;refine Wc.le ?_ (Le.kn hall);clear hall;refine zy ?_;refine ZAE rfl rfl rfl rfl (ZAW rfl rfl) (fun hkl=>?_) (fun hkl=>?_);rotate_left
  ·have:k=l.length:=by omega
   subst this;refine zy ?_
   rcases hx with ⟨-,hx⟩|⟨j,rfl,hj,hdj,hmin⟩
   ·rw[hx a0 ha0] at hda0
    cases hda0
   ·exact⟨rfl,rfl,hE1,hG1,j,hj,hdj,hmin,rfl,rfl,rfl,rfl,rfl,rfl,rfl,rfl,trivial⟩
  have hk':k<l.length:=by omega
  refine zy ?_;have c9:=hG1.c9 hk';have g3:=hG1.g3
  cases hd:dn k with
  | true =>
   rw[hd] at c9;refine ZAJ hmix [0,0,3,7,15,31,63,127,255,511,511,511,3583,7679,16383,511,511,511,197119,459263,1048575,2097151,4194303,8388607] [0,1,2,3,4,5,6,7,8,9,10,11,12,13,15,16,17,18,19] (some 14) [([],(some 20)),([21,22,23],none)] (by kernel_rfl) (by kernel_rfl) ?_;refine z_m ?_;refine z_m ?_;refine ZAB rfl rfl rfl rfl rfl (fun _=>A_ix (k:=k) Und.h Tsz.h rfl rfl) ?_;refine z_l ?_;refine z_n ?_;refine z_m ?_;refine g_m ?_;refine z_o ?_;refine g_m ?_;refine g_r ?_;refine g_m ?_;refine g_m ?_;refine z_o ?_;refine g_r ?_;refine g_r ?_;refine g_m ?_;refine g_m ?_;refine z_o ?_;refine g_r ?_
   refine ZAF [0,1,2,3,4,5,6,7,8,9,10,11,12,13] (by kernel_rfl) rfl (ZAA rfl) rfl nb rfl (ZBP rfl ?_);refine ZAF [0,1,2,3,4,5,6,7,8,9,10,11,12,13,14,15,16,17,18,19] (by kernel_rfl) rfl (by refine o_r 19 ?_;refine ZCO (i:=18) rfl rfl rfl rfl rfl ?_;refine o_m 17 ?_;refine o_m 16 ?_;refine o_r 15 ?_;exact ZAA rfl) rfl nb rfl (ZBP rfl ?_);refine z_o ?_;refine g_p ?_;refine z_p ?_;refine ZAM (ZAA rfl) nb' ?_;refine zy ?_;refine⟨(k+1,x),(by show l.length-(k+1)<l.length-k;omega),rfl,hk',hE1,hG1,?_,rfl,rfl,rfl,rfl,rfl,rfl,rfl,rfl,rfl,trivial⟩
   rcases hx with ⟨e,hx⟩|⟨j,e,hj,hdj,hmin⟩
   ·refine .inl ⟨e,fun a ha=>?_⟩
    rcases Nat.lt_or_ge a k with g|g
    ·exact hx a g
    ·have:a=k:=by omega
     rw[this];exact hd
   ·refine .inr ⟨j,e,by show j<k+1;omega,hdj,fun a ha hda=>?_⟩
    rcases Nat.lt_or_ge a k with g|g
    ·exact hmin a g hda
    ·have:a=k:=by omega
     rw[this,hd] at hda;cases hda
  | false =>
   rw[hd] at c9
   rcases hx with ⟨rfl,hx⟩|⟨j,rfl,hj,hdj,hmin⟩
   ·refine ZAJ hmix [0,0,3,7,15,31,63,127,255,511,511,511,3583,7679,16383,511,511,511,197119,459263,1048575,2097151,4194303,8388607] [0,1,2,3,4,5,6,7,8,9,10,11,12,13,15,16,17,18,19] (some 14) [([],(some 20)),([21,22,23],none)] (by kernel_rfl) (by kernel_rfl) ?_
    refine z_m ?_;refine z_m ?_;refine ZAB rfl rfl rfl rfl rfl (fun _=>A_ix (k:=k) Und.h Tsz.h rfl rfl) ?_;refine z_l ?_;refine z_n ?_;refine z_m ?_;refine g_m ?_
    first|refine ZAV rfl rfl rfl rfl ?_|refine ZAB rfl rfl rfl rfl rfl (fun _=>A_tt (show (-1:Int)<0 by decide) (ZAW rfl rfl)) ?_
    refine g_m ?_;refine g_r ?_;refine g_m ?_;refine g_m ?_;refine z_o ?_;refine g_r ?_;refine g_r ?_;refine g_m ?_;refine g_m ?_;refine z_o ?_;refine g_r ?_;refine ZAF [0,1,2,3,4,5,6,7,8,9,10,11,12,13] (by kernel_rfl) rfl (ZAA rfl) rfl nb rfl (ZBP rfl ?_);refine ZAF [0,1,2,3,4,5,6,7,8,9,10,11,12,13,14,15,16,17,18,19] (by kernel_rfl) rfl (by refine o_r 19 ?_;refine ZCO (i:=18) rfl rfl rfl rfl rfl ?_;refine o_m 17 ?_;refine o_m 16 ?_;refine o_r 15 ?_;exact ZAA rfl) rfl nb rfl (ZBP rfl ?_);refine z_o ?_;refine g_p ?_;refine z_p ?_;refine ZAM (ZAA rfl) nb' ?_;refine zy ?_;refine⟨(k+1,(k:Int)),(by show l.length-(k+1)<l.length-k;omega),rfl,hk',hE1,hG1,.inr ⟨k,rfl,by show k<k+1;omega,hd,fun a ha hda=>?_⟩,rfl,rfl,rfl,rfl,rfl,rfl,rfl,rfl,rfl,trivial⟩
    rcases Nat.lt_or_ge a k with g|g
    ·rw[hx a g] at hda
     cases hda
    ·have:a=k:=by omega
     rw[this];exact Int.le_refl _
   ·have hjl:j<l.length:=by omega
    obtain⟨b1,o1,oa1,rfl,row1,hrow1,hr1⟩:=hl k hk';obtain⟨b2,o2,oa2,e2,row2,hrow2,hr2⟩:=hl j hjl;cases e2;rw[ZFZ hk'] at hr1;rw[ZFZ hjl] at hr2;obtain rfl:=hr1;obtain rfl:=hr2;have hov1:=hov hE1 (hsx hk');have hrow11:=hE1.row hrow1;have hrow21:=hE1.row hrow2
    by_cases hc:ZA0 t (sAt l k)<ZA0 t (sAt l j)
    ·refine ZAJ hmix [0,0,3,7,15,31,63,127,255,511,511,511,3583,7679,16383,511,511,511,197119,459263,1048575,2097151,4194303,8388607] [0,1,2,3,4,5,6,7,8,9,10,11,12,13,15,16,17,18,19] (some 14) [([],(some 20)),([21,22,23],none)] (by kernel_rfl) (by kernel_rfl) ?_
     refine z_m ?_;refine z_m ?_;refine ZAB rfl rfl rfl rfl rfl (fun _=>A_ix (k:=k) Und.h Tsz.h rfl rfl) ?_;refine z_l ?_;refine z_n ?_;refine z_m ?_;refine g_m ?_
     first|refine ZAV rfl rfl rfl rfl ?_|refine ZAB rfl rfl rfl rfl rfl (fun _=>A_ff (show ¬((j:Nat):Int)<0 by omega) (ZAW rfl rfl)) ?_
     refine g_m ?_;refine g_r ?_;refine g_m ?_;refine g_m ?_
     first|refine ZAV rfl rfl rfl rfl ?_|refine ZAB rfl rfl rfl rfl rfl (fun _=>A_ix (k:=k) Und.h Tsz.h rfl rfl) ?_
     refine g_r ?_;refine g_r ?_;refine g_m ?_;refine g_m ?_
     first|refine ZAV rfl rfl rfl rfl ?_|refine ZAB rfl rfl rfl rfl rfl (fun _=>A_ix (k:=j) Und.h Tsz.h rfl rfl) ?_
     refine g_r ?_;refine ZAF [0,1,2,3,4,5,6,7,8,9,10,11,12,13] (by kernel_rfl) rfl (ZAA rfl) rfl nb rfl (ZAZ rfl rfl rfl rfl rfl Bod.h hov1 (fun h5 hE5=>?_));have hE15:=hE1.trans hE5;have hov2:=hov hE15 (hsx hjl);have g35:=hE5.get g3;have c95:=hE5.cell c9;have hrow15:=hE5.row hrow11;have hrow25:=hE5.row hrow21;refine ZAF [0,1,2,3,4,5,6,7,8,9,10,11,12,13,14,15,16,17,18,19] (by kernel_rfl) rfl (by refine o_r 19 ?_;(first|refine ZCO (i:=18) rfl rfl rfl rfl rfl ?_|refine ZAY (i:=18) rfl rfl rfl rfl rfl (fun _=>A_ix (k:=j) Und.h Tsz.h rfl rfl) rfl ?_);refine o_m 17 ?_;refine o_m 16 ?_;refine o_r 15 ?_;exact ZAA rfl) rfl nb rfl (ZAZ rfl rfl rfl rfl rfl Bod.h hov2 (fun h6 hE6=>?_))
     have g36:=hE6.get g35;have c96:=hE6.cell c95;have hrow16:=hE6.row hrow15;have hrow26:=hE6.row hrow25
     first|refine ZAV rfl rfl rfl rfl ?_|refine ZAB rfl rfl rfl rfl rfl (fun _=>A_tt hc (ZAW rfl rfl)) ?_
     refine g_p ?_;refine z_p ?_;refine ZAM (ZAA rfl) nb' ?_;refine zy ?_;refine⟨(k+1,(k:Int)),(by show l.length-(k+1)<l.length-k;omega),rfl,hk',hE15.trans hE6,(hG1.ext hE5).ext hE6,.inr ⟨k,rfl,by show k<k+1;omega,hd,fun a ha hda=>?_⟩,rfl,rfl,rfl,rfl,rfl,rfl,rfl,rfl,rfl,trivial⟩
     rcases Nat.lt_or_ge a k with g|g
     ·have:=hmin a g hda
      omega
     ·have:a=k:=by omega
      rw[this];exact Int.le_refl _
    ·refine ZAJ hmix [0,0,3,7,15,31,63,127,255,511,511,511,3583,7679,16383,511,511,511,197119,459263,1048575,2097151,4194303,8388607] [0,1,2,3,4,5,6,7,8,9,10,11,12,13,15,16,17,18,19] (some 14) [([],(some 20)),([21,22,23],none)] (by kernel_rfl) (by kernel_rfl) ?_
     refine z_m ?_;refine z_m ?_;refine ZAB rfl rfl rfl rfl rfl (fun _=>A_ix (k:=k) Und.h Tsz.h rfl rfl) ?_;refine z_l ?_;refine z_n ?_;refine z_m ?_;refine g_m ?_
     first|refine ZAV rfl rfl rfl rfl ?_|refine ZAB rfl rfl rfl rfl rfl (fun _=>A_ff (show ¬((j:Nat):Int)<0 by omega) (ZAW rfl rfl)) ?_
     refine g_m ?_;refine g_r ?_;refine g_m ?_;refine g_m ?_
     first|refine ZAV rfl rfl rfl rfl ?_|refine ZAB rfl rfl rfl rfl rfl (fun _=>A_ix (k:=k) Und.h Tsz.h rfl rfl) ?_
     refine g_r ?_;refine g_r ?_;refine g_m ?_;refine g_m ?_
     first|refine ZAV rfl rfl rfl rfl ?_|refine ZAB rfl rfl rfl rfl rfl (fun _=>A_ix (k:=j) Und.h Tsz.h rfl rfl) ?_
     refine g_r ?_;refine ZAF [0,1,2,3,4,5,6,7,8,9,10,11,12,13] (by kernel_rfl) rfl (ZAA rfl) rfl nb rfl (ZAZ rfl rfl rfl rfl rfl Bod.h hov1 (fun h5 hE5=>?_));have hE15:=hE1.trans hE5;have hov2:=hov hE15 (hsx hjl);have g35:=hE5.get g3;have c95:=hE5.cell c9;have hrow15:=hE5.row hrow11;have hrow25:=hE5.row hrow21;refine ZAF [0,1,2,3,4,5,6,7,8,9,10,11,12,13,14,15,16,17,18,19] (by kernel_rfl) rfl (by refine o_r 19 ?_;(first|refine ZCO (i:=18) rfl rfl rfl rfl rfl ?_|refine ZAY (i:=18) rfl rfl rfl rfl rfl (fun _=>A_ix (k:=j) Und.h Tsz.h rfl rfl) rfl ?_);refine o_m 17 ?_;refine o_m 16 ?_;refine o_r 15 ?_;exact ZAA rfl) rfl nb rfl (ZAZ rfl rfl rfl rfl rfl Bod.h hov2 (fun h6 hE6=>?_))
     have g36:=hE6.get g35;have c96:=hE6.cell c95;have hrow16:=hE6.row hrow15;have hrow26:=hE6.row hrow25
     first|refine ZAV rfl rfl rfl rfl ?_|refine ZAB rfl rfl rfl rfl rfl (fun _=>A_ff hc (ZAW rfl rfl)) ?_
     refine g_p ?_;refine z_p ?_;refine ZAM (ZAA rfl) nb' ?_;refine zy ?_;refine⟨(k+1,(j:Int)),(by show l.length-(k+1)<l.length-k;omega),rfl,hk',hE15.trans hE6,(hG1.ext hE5).ext hE6,.inr ⟨j,rfl,by show j<k+1;omega,hdj,fun a ha hda=>?_⟩,rfl,rfl,rfl,rfl,rfl,rfl,rfl,rfl,rfl,trivial⟩
     rcases Nat.lt_or_ge a k with g|g
     ·exact hmin a g hda
     ·have:a=k:=by omega
      rw[this];omega
 clear hE1 hG1;rintro _ m' ds' h2 ⟨rfl,rfl,hE2,hG2,i,hi,hdi,hmin,hall⟩
 show Wc _ _ _ _ _ _ _
 refine Wc.le ?_ (Le.kn hall);clear hall;clear h1;obtain⟨bl,ol,oal,rfl,row1,hrow1,hr1⟩:=hl i hi;rw[ZFZ hi] at hr1;obtain rfl:=hr1;have hMs:=hM.step hi hdi hmin;have hacc:=ZPf hI hok hi hmin;have hbs:ZBs (fun y:Iv=>y.e<=b) (endI I) 0 ((ZBM (updB dn i true) l.length).map fun k=>ivS t (sAt l k))=if ZA0 t (sAt l i)<=b then max (ZBs (fun y:Iv=>y.e<=b) (endI I) 0 ((ZBM dn l.length).map fun k=>ivS t (sAt l k))) (endI I (ivS t (sAt l i))) else ZBs (fun y:Iv=>y.e<=b) (endI I) 0 ((ZBM dn l.length).map fun k=>ivS t (sAt l k)):=ZPD (iv:=fun k=>ivS t (sAt l k)) hi
 refine zy ?_;refine ZAI rfl rfl rfl rfl (A_ix Und.h Tsz.h rfl rfl) ?_;refine zy ?_;refine ZBF rfl Tsz.h rfl rfl hG2.g9 rfl rfl (ZEw (by rw[ZEd];omega)) fun h3 hU3=>?_;have hG3:=hG2.s9 n93.symm n89 hU3;have hE3:=hU3.ext hE2 hw m9;have hrow3:=hE3.row hrow1;have hcw:=ZAR (k:=5) hrow3 rfl;refine zy ?_;refine ZAI rfl rfl rfl rfl (A_ix Und.h Tsz.h rfl rfl) ?_;refine zy ?_;refine ZAI rfl rfl rfl rfl (A_ix Und.h Tsz.h rfl rfl) ?_;refine zy ?_;refine ZBF rfl Tsz.h rfl rfl hG3.g8 rfl rfl (ZEw (by rw[ZEd];omega)) fun h4 hU4=>?_;have hG4:=hG3.s8 n83.symm n89.symm hU4;have hE4:=hU4.ext hE3 hw m8;clear hU3 hU4 hG3 hG2 hE3 hE2 hcw hrow3
 clear h3 h2;refine zy ?_
 refine Wc.mono (Q:=fun z m' ds' h'=>z=.exit 4/\ds'=[]/\Ext h h'/\MoG h' b3 b8 b9 l.length [i64 t.first,.slice xl t.lands.length cxl,.slice at' t.travel.length ct,.slice a1 t.venues.length c1,.slice a2 t.rights.length c2,.slice a3 t.prints.length c3,.slice a4 t.packs.length c4,.slice a5 t.keys.length c5,.slice a6 t.loans.length c6] (updB dn i true) (updB en i (endI I (ivS t (sAt l i))))/\AllK m' [(1,.slice (some ⟨bl,ol,oal⟩) l.length cl),(2,i64 b),(3,.pointer (some ⟨b3,0,none⟩)),(7,i64 best),(8,.slice (some ⟨b8,0,none⟩) l.length l.length),(9,.slice (some ⟨b9,0,none⟩) l.length l.length),(10,i64 n),(11,i64 (i:Nat))])
  (ZAT (fun (k:Nat) m ds h'=>ds=[]/\k<=l.length/\Ext h h'/\MoG h' b3 b8 b9 l.length [i64 t.first,.slice xl t.lands.length cxl,.slice at' t.travel.length ct,.slice a1 t.venues.length c1,.slice a2 t.rights.length c2,.slice a3 t.prints.length c3,.slice a4 t.packs.length c4,.slice a5 t.keys.length c5,.slice a6 t.loans.length c6] (updB dn i true) (updB en i (accM I (fun k=>ivS t (sAt l k)) dn (ivS t (sAt l i)) k))/\AllK m [(1,.slice (some ⟨bl,ol,oal⟩) l.length cl),(2,i64 b),(3,.pointer (some ⟨b3,0,none⟩)),(7,i64 best),(8,.slice (some ⟨b8,0,none⟩) l.length l.length),(9,.slice (some ⟨b9,0,none⟩) l.length l.length),(10,i64 n),(11,i64 (i:Nat)),(13,i64 k)]) (fun k=>l.length-k) 0 ?_ ?_) ?_
 ·exact⟨rfl,Nat.zero_le _,hE4,hG4,rfl,rfl,rfl,rfl,rfl,rfl,rfl,rfl,rfl,trivial⟩
 ·clear hE4 hG4
  clear h4;rintro k m ds h1 ⟨rfl,hk,hE1,hG1,hall⟩;refine Wc.le ?_ (Le.kn hall);clear hall;refine zy ?_;refine ZAE rfl rfl rfl rfl (ZAW rfl rfl) (fun hkl=>?_) (fun hkl=>?_);rotate_left
  ·have:k=l.length:=by omega
   subst this;rw[hacc] at hG1;refine zy ?_;exact⟨rfl,rfl,hE1,hG1,rfl,rfl,rfl,rfl,rfl,rfl,rfl,rfl,trivial⟩
  have hk':k<l.length:=by omega
  refine zy ?_;have c9:=hG1.c9 hk';have g3:=hG1.g3;have hsu:accM I (fun k=>ivS t (sAt l k)) dn (ivS t (sAt l i)) (k+1)=if dn k=true then (if ZA0 t (sAt l k)<=(sAt l i).minute then max (accM I (fun k=>ivS t (sAt l k)) dn (ivS t (sAt l i)) k) (endI I (ivS t (sAt l k))+(sAt l i).worth) else accM I (fun k=>ivS t (sAt l k)) dn (ivS t (sAt l i)) k) else accM I (fun k=>ivS t (sAt l k)) dn (ivS t (sAt l i)) k:=ZNr
  by_cases hki:k=i
  ·subst hki
   rw[ZD9] at c9;rw[hdi,if_neg (by simp)] at hsu;refine ZAJ hmix [0,0,3,7,15,31,31,127,255,511,1023,1023,1023,7167,15359,32767,1023,1023,197631,459775,984063,2097151,4194303] [0,1,2,3,4,5,6,7,8,9,10,11,12,13,14,16,17,18,19,20] (some 15) [([21,22],none)] (by kernel_rfl) (by kernel_rfl) ?_;refine z_m ?_;refine z_m ?_;refine ZAB rfl rfl rfl rfl rfl (fun _=>A_ix (k:=k) Und.h Tsz.h rfl rfl) ?_;refine z_l ?_;refine z_m ?_;refine g_m ?_;refine g_m ?_
   first|refine ZAV rfl rfl rfl rfl ?_|refine ZAB rfl rfl rfl rfl rfl (fun _=>A_ff (show ¬((k:Nat):Int)≠((k:Nat):Int) from fun q=>q rfl) (ZAb rfl rfl)) ?_
   refine z_p ?_;refine z_m ?_;refine g_r ?_;refine g_m ?_;refine g_m ?_;refine z_o ?_;refine g_r ?_;refine g_m ?_;refine g_m ?_;refine z_o ?_;refine g_f ?_;refine g_l ?_;refine ZAF [0,1,2,3,4,5,6,7,8,9,10,11,12,13,14] (by kernel_rfl) rfl (ZAA rfl) rfl nb rfl (ZBP rfl ?_);refine z_o ?_;refine z_p ?_;refine ZAM (by refine o_l 20 ?_;refine o_f 19 ?_;refine ZCO (i:=18) rfl rfl rfl rfl rfl ?_;refine o_m 17 ?_;refine o_m 16 ?_;exact ZAA rfl) nb' ?_;refine zy ?_;exact⟨k+1,(by show l.length-(k+1)<l.length-k;omega),rfl,hk',hE1,(by rw[hsu];exact hG1),rfl,rfl,rfl,rfl,rfl,rfl,rfl,rfl,rfl,trivial⟩
  rw[ZDj hki] at c9
  cases hd:dn k with
  | false =>
   rw[hd] at c9;rw[hd,if_neg (by simp)] at hsu;refine ZAJ hmix [0,0,3,7,15,31,31,127,255,511,1023,1023,1023,7167,15359,32767,1023,1023,197631,459775,984063,2097151,4194303] [0,1,2,3,4,5,6,7,8,9,10,11,12,13,14,16,17,18,19,20] (some 15) [([21,22],none)] (by kernel_rfl) (by kernel_rfl) ?_;refine z_m ?_;refine z_m ?_;refine ZAB rfl rfl rfl rfl rfl (fun _=>A_ix (k:=k) Und.h Tsz.h rfl rfl) ?_;refine z_l ?_;refine z_m ?_;refine g_m ?_;refine g_m ?_;refine z_o ?_;refine z_p ?_;refine z_m ?_;refine g_r ?_;refine g_m ?_;refine g_m ?_;refine z_o ?_;refine g_r ?_;refine g_m ?_;refine g_m ?_;refine z_o ?_;refine g_f ?_;refine g_l ?_
   refine ZAF [0,1,2,3,4,5,6,7,8,9,10,11,12,13,14] (by kernel_rfl) rfl (ZAA rfl) rfl nb rfl (ZBP rfl ?_);refine z_o ?_;refine z_p ?_;refine ZAM (by refine o_l 20 ?_;refine o_f 19 ?_;refine ZCO (i:=18) rfl rfl rfl rfl rfl ?_;refine o_m 17 ?_;refine o_m 16 ?_;exact ZAA rfl) nb' ?_;refine zy ?_;exact⟨k+1,(by show l.length-(k+1)<l.length-k;omega),rfl,hk',hE1,(by rw[hsu];exact hG1),rfl,rfl,rfl,rfl,rfl,rfl,rfl,rfl,rfl,trivial⟩
  | true =>
   rw[hd] at c9;rw[hd,if_pos rfl] at hsu;obtain⟨b2,o2,oa2,e2,row2,hrow2,hr2⟩:=hl k hk';cases e2;rw[ZFZ hk'] at hr2;obtain rfl:=hr2;have hov2:=hov hE1 (hsx hk');have hrow11:=hE1.row hrow1;have hrow21:=hE1.row hrow2;have cm:=ZAR (k:=3) hrow11 rfl
   by_cases hc:ZA0 t (sAt l k)<=(sAt l i).minute
   rotate_left
   ·rw[if_neg hc] at hsu
    refine ZAJ hmix [0,0,3,7,15,31,31,127,255,511,1023,1023,1023,7167,15359,32767,1023,1023,197631,459775,984063,2097151,4194303] [0,1,2,3,4,5,6,7,8,9,10,11,12,13,14,16,17,18,19,20] (some 15) [([21,22],none)] (by kernel_rfl) (by kernel_rfl) ?_;refine z_m ?_;refine z_m ?_;refine ZAB rfl rfl rfl rfl rfl (fun _=>A_ix (k:=k) Und.h Tsz.h rfl rfl) ?_;refine z_l ?_;refine z_m ?_;refine g_m ?_;refine g_m ?_
    first|refine ZAV rfl rfl rfl rfl ?_|refine ZAB rfl rfl rfl rfl rfl (fun _=>A_tt (show ((k:Nat):Int)≠((i:Nat):Int) by omega) (ZAb rfl rfl)) ?_
    refine z_p ?_;refine z_m ?_;refine g_r ?_;refine g_m ?_;refine g_m ?_
    first|refine ZAV rfl rfl rfl rfl ?_|refine ZAB rfl rfl rfl rfl rfl (fun _=>A_ix (k:=k) Und.h Tsz.h rfl rfl) ?_
    refine g_r ?_;refine g_m ?_;refine g_m ?_
    first|refine ZAV rfl rfl rfl rfl ?_|refine ZAB rfl rfl rfl rfl rfl (fun _=>A_ix (k:=i) Und.h Tsz.h rfl rfl) ?_
    refine g_f ?_;refine g_l ?_;refine ZAF [0,1,2,3,4,5,6,7,8,9,10,11,12,13,14] (by kernel_rfl) rfl (ZAA rfl) rfl nb rfl (ZAZ rfl rfl rfl rfl rfl Bod.h hov2 (fun h5 hE5=>?_));have g35:=hE5.get g3;have c95:=hE5.cell c9;have hrow15:=hE5.row hrow11;have hrow25:=hE5.row hrow21;have cm5:=hE5.cell cm
    first|refine ZAV rfl rfl rfl rfl ?_|refine ZAB rfl rfl rfl rfl rfl (fun _=>A_ff hc (ZD7 rfl rfl)) ?_
    refine z_p ?_;refine ZAM (by refine o_l 20 ?_;refine o_f 19 ?_;(first|refine ZCO (i:=18) rfl rfl rfl rfl rfl ?_|refine ZAY (i:=18) rfl rfl rfl rfl rfl (fun _=>A_ix (k:=i) Und.h Tsz.h rfl rfl) rfl ?_);refine o_m 17 ?_;refine o_m 16 ?_;exact ZAA rfl) nb' ?_;refine zy ?_;exact⟨k+1,(by show l.length-(k+1)<l.length-k;omega),rfl,hk',hE1.trans hE5,(by rw[hsu];exact hG1.ext hE5),rfl,rfl,rfl,rfl,rfl,rfl,rfl,rfl,rfl,trivial⟩
   rw[if_pos hc] at hsu;refine ZAJ hmix [0,0,3,7,15,31,31,127,255,511,1023,1023,1023,7167,15359,32767,1023,1023,197631,459775,984063,2097151,4194303] [0,1,2,3,4,5,6,7,8,9,10,11,12,13,14,16,17,18,19,20] (some 15) [([21,22],none)] (by kernel_rfl) (by kernel_rfl) ?_;refine z_m ?_;refine z_m ?_;refine ZAB rfl rfl rfl rfl rfl (fun _=>A_ix (k:=k) Und.h Tsz.h rfl rfl) ?_;refine z_l ?_;refine z_m ?_;refine g_m ?_;refine g_m ?_
   first|refine ZAV rfl rfl rfl rfl ?_|refine ZAB rfl rfl rfl rfl rfl (fun _=>A_tt (show ((k:Nat):Int)≠((i:Nat):Int) by omega) (ZAb rfl rfl)) ?_
   refine z_p ?_;refine z_m ?_;refine g_r ?_;refine g_m ?_;refine g_m ?_
   first|refine ZAV rfl rfl rfl rfl ?_|refine ZAB rfl rfl rfl rfl rfl (fun _=>A_ix (k:=k) Und.h Tsz.h rfl rfl) ?_
   refine g_r ?_;refine g_m ?_;refine g_m ?_
   first|refine ZAV rfl rfl rfl rfl ?_|refine ZAB rfl rfl rfl rfl rfl (fun _=>A_ix (k:=i) Und.h Tsz.h rfl rfl) ?_
   refine g_f ?_;refine g_l ?_;refine ZAF [0,1,2,3,4,5,6,7,8,9,10,11,12,13,14] (by kernel_rfl) rfl (ZAA rfl) rfl nb rfl (ZAZ rfl rfl rfl rfl rfl Bod.h hov2 (fun h5 hE5=>?_));have g35:=hE5.get g3;have c95:=hE5.cell c9;have hrow15:=hE5.row hrow11;have hrow25:=hE5.row hrow21;have cm5:=hE5.cell cm
   first|refine ZAV rfl rfl rfl rfl ?_|refine ZAB rfl rfl rfl rfl rfl (fun _=>A_tt hc (ZD7 rfl rfl)) ?_
   refine z_p ?_;refine ZAM (by refine o_l 20 ?_;refine o_f 19 ?_;(first|refine ZCO (i:=18) rfl rfl rfl rfl rfl ?_|refine ZAY (i:=18) rfl rfl rfl rfl rfl (fun _=>A_ix (k:=i) Und.h Tsz.h rfl rfl) rfl ?_);refine o_m 17 ?_;refine o_m 16 ?_;exact ZAA rfl) nb' ?_;have cw5:=ZAR (k:=5) hrow15 rfl;have hG5:=hG1.ext hE5;have hE15:=hE1.trans hE5;have ci:=hG5.c8 hi;have ck:=hG5.c8 hk';rw[ZD9] at ci;rw[ZDj hki,hM.val k hk' hd] at ck;have hek:=hEn hk';obtain⟨-,-,-,-,w1,w2⟩:=ZAo (hsx hi);generalize hac:accM I (fun k=>ivS t (sAt l k)) dn (ivS t (sAt l i)) k=ac at *;have hsu2:accM I (fun k=>ivS t (sAt l k)) dn (ivS t (sAt l i)) (k+1)=max ac (endI I (ivS t (sAt l k))+(sAt l i).worth):=hsu
   clear hsu;generalize endI I (ivS t (sAt l k))=ek at *;refine zy ?_;refine ZAJ hmix [0,0,0,0,12,28,0,0,192,448,0,0,3072,7168,15360,32704,65532,131071,262143] [0,1,2,3,4,5,6,7,8,9,10,11,12,13,14,15,16,17] (some 18) [([],none)] (by kernel_rfl) (by kernel_rfl) ?_;refine z_m ?_;refine z_m ?_;refine z_m ?_;refine z_m ?_;refine ZAB rfl rfl rfl rfl rfl (fun _=>A_ix (k:=i) Und.h Tsz.h rfl rfl) ?_;refine z_l ?_;refine z_m ?_;refine z_m ?_;refine ZAB rfl rfl rfl rfl rfl (fun _=>A_ix (k:=k) Und.h Tsz.h rfl rfl) ?_;refine z_l ?_;refine z_m ?_;refine z_m ?_;refine ZAB rfl rfl rfl rfl rfl (fun _=>A_ix (k:=i) Und.h Tsz.h rfl rfl) ?_;refine z_f ?_;refine z_l ?_;refine ZAB rfl rfl rfl rfl rfl (fun _=>ZCH rfl rfl (by omega) (by omega)) ?_;refine z_x ?_;refine ZAB rfl rfl rfl rfl rfl (fun _=>A_ix (k:=i) Und.h Tsz.h rfl rfl) ?_
   refine ZAF [0,1,2,3,4,5,6,7,8,9,10,11,12,13,14,15,16,17] (by kernel_rfl) rfl (ZAA rfl) rfl nb rfl (ZBD rfl rfl Tsz.h rfl rfl hG5.g8 rfl rfl (ZEw (by rw[ZEd];omega)) (fun h7 hU7=>?_));refine ZAM (ZAA rfl) nb' ?_;have hG7:=hG5.s8 n83.symm n89.symm hU7;rw[ZP9] at hG7;refine zy ?_;exact⟨k+1,(by show l.length-(k+1)<l.length-k;omega),rfl,hk',hU7.ext hE15 hw m8,(by rw[hsu2];exact hG7),rfl,rfl,rfl,rfl,rfl,rfl,rfl,rfl,rfl,trivial⟩
 clear hE4 hG4;rintro _ m' ds' h5 ⟨rfl,rfl,hE5,hG5,hall⟩
 show Wc _ _ _ _ _ _ _
 refine Wc.le ?_ (Le.kn hall);clear hall;clear h4;have hov1:=hov hE5 (hsx hi);have g3:=hG5.g3;have hrow5:=hE5.row hrow1
 by_cases hc:ZA0 t (sAt l i)<=b
 ·rw[if_pos hc,<-hbest] at hbs
  refine zy ?_;refine ZAJ hmix [0,0,0,6,14,31,0,127] [0,1,2,3,4,6] (some 5) [([7],none)] (by kernel_rfl) (by kernel_rfl) ?_;refine z_r ?_;refine z_m ?_;refine z_m ?_;refine ZAB rfl rfl rfl rfl rfl (fun _=>A_ix (k:=i) Und.h Tsz.h rfl rfl) ?_;refine z_r ?_;refine z_m ?_;refine ZAF [0,1,2,3,4] (by kernel_rfl) rfl (ZAA rfl) rfl nb rfl (ZAZ rfl rfl rfl rfl rfl Bod.h hov1 (fun h6 hE6=>?_));have g36:=hE6.get g3;have hrow6:=hE6.row hrow5;refine ZAB rfl rfl rfl rfl rfl (fun _=>A_tt hc (ZD7 rfl rfl)) ?_;refine ZAM (by refine t_m 6 ?_;exact ZAA rfl) nb' ?_;have hG6:=hG5.ext hE6;have ci:=hG6.c8 hi;rw[ZD9] at ci
  refine zy ?_;refine ZAI rfl rfl rfl rfl (A_ix Und.h Tsz.h rfl rfl) ?_;refine zy ?_;refine ZAI rfl rfl rfl rfl (ZRe rfl rfl) ?_;refine zy ?_;exact⟨(n+1,_,updB dn i true,updB en i (endI I (ivS t (sAt l i)))),(by show l.length-(n+1)<l.length-n;omega),rfl,hnl,hE5.trans hE6,hG6,hMs,hbs.symm,rfl,rfl,rfl,rfl,rfl,rfl,rfl,trivial⟩
 ·rw[if_neg hc,<-hbest] at hbs
  refine zy ?_;refine ZAJ hmix [0,0,0,6,14,31,0,127] [0,1,2,3,4,6] (some 5) [([7],none)] (by kernel_rfl) (by kernel_rfl) ?_;refine z_r ?_;refine z_m ?_;refine z_m ?_;refine ZAB rfl rfl rfl rfl rfl (fun _=>A_ix (k:=i) Und.h Tsz.h rfl rfl) ?_;refine z_r ?_;refine z_m ?_;refine ZAF [0,1,2,3,4] (by kernel_rfl) rfl (ZAA rfl) rfl nb rfl (ZAZ rfl rfl rfl rfl rfl Bod.h hov1 (fun h6 hE6=>?_));have g36:=hE6.get g3;have hrow6:=hE6.row hrow5;refine ZAB rfl rfl rfl rfl rfl (fun _=>A_ff hc (ZD7 rfl rfl)) ?_;refine ZAM (by refine t_m 6 ?_;exact ZAA rfl) nb' ?_;have hG6:=hG5.ext hE6;refine zy ?_;exact⟨(n+1,best,updB dn i true,updB en i (endI I (ivS t (sAt l i)))),(by show l.length-(n+1)<l.length-n;omega),rfl,hnl,hE5.trans hE6,hG6,hMs,hbs.symm,rfl,rfl,rfl,rfl,rfl,rfl,rfl,trivial⟩
theorem ZH0 {tc sr:List Value}{t:ScT}{K:List ScS}{ak:Option Addr}{ck:Nat}{s:ScS}{h:Heap}(ht:ZBX h tc t)(hO:ScOk t)(hK:ZAN 6 ScSR h ak K)(hK0:∀x∈K,ZAQ t x=0)(hs0:ZAQ t s=0)(hr:ScSR h sr s)(hlen:K.length<=1000):Sv Tryz.prog 115 [.agg ⟨tc⟩,.slice ak K.length ck,.agg ⟨sr⟩] h (RetP fun v h'=>v=.bool (K.all fun x=>!ZDD t x s)/\Ext h h'):=by
 have ht0:=ht;obtain⟨xl,cxl,at',ct,a1,c1,a2,c2,a3,c3,a4,c4,a5,c5,a6,c6,rfl,-⟩:=ht;obtain rfl:=hr;refine ZAH Tryz.func115 rfl (by rw[Tryz.ntmps115];rfl) ?_;show Wc Tryz.prog ⟨115,21,none⟩ _ _ _ _ _;refine zy ?_;refine ZAa rfl rfl rfl fun h1 hE1 hW1 hg1 hn1=>?_;refine zy ?_;refine ZAa rfl rfl rfl fun h2 hE2 hW2 hg2 hn2=>?_;replace hg1:=hE2.get hg1;have hE:=hE1.trans hE2;clear hE1 hE2 hW1 hW2 hn1 hn2;generalize h.nx=b1 at *;generalize h1.nx=b2 at *;clear h1;refine zy ?_;refine ZAT (fun (k:Nat) m ds h'=>ds=[]/\k<=K.length/\Ext h2 h'/\(∀j (hj:j<K.length),j<k->ZDD t K[j] s=false)/\AllK m [(1,.slice ak K.length ck),(3,.pointer (some ⟨b1,0,none⟩)),(5,.pointer (some ⟨b2,0,none⟩)),(7,i64 k)]) (fun k=>K.length-k) 0 ?_ ?_
 ·exact⟨rfl,Nat.zero_le _,Ext.refl _,(fun _ _ hj=>absurd hj (Nat.not_lt_zero _)),rfl,rfl,rfl,rfl,trivial⟩
 rintro k m ds h3 ⟨rfl,hk,hE3,hno,hall⟩;refine Wc.le ?_ (Le.kn hall);clear hall;refine zy ?_;refine ZAE rfl rfl rfl rfl (ZAW rfl rfl) (fun hlt=>?_) (fun hlt=>?_);rotate_left
 ·have:k=K.length:=by omega
  subst this
  have hall:(K.all fun x=>!ZDD t x s)=true:=List.all_eq_true.2 fun x hx=>by
   obtain⟨j,hj,rfl⟩:=List.getElem_of_mem hx;rw[hno j hj hj];rfl
  refine zy ?_;exact ZAC (ZAD rfl ⟨by rw[hall];rfl,hE.trans hE3⟩)
 have hk':k<K.length:=by omega
 refine zy ?_;obtain⟨b,o,oa,rfl,row,hrow,hr⟩:=hK k hk';have hx0:=hK0 _ (List.getElem_mem hk');have hmem:K[k]∈K:=List.getElem_mem hk'
 have hnx:ZDD t K[k] s=false->∀j (hj:j<K.length),j<k+1->ZDD t K[j] s=false:=fun e j hj hlt=>by
  rcases Nat.lt_or_ge j k with g|g
  ·exact hno j hj g
  ·have:j=k:=by omega
   subst this;exact e
 generalize K[k]=x at *;obtain rfl:=hr;have hrow3:=(hE.trans hE3).row hrow;have k1:=hE3.get hg1;have k2:=hE3.get hg2;have hdi:=ZIv (ht0.ext (hE.trans hE3)) hO hx0 hs0 (rfl:ScSR h3 _ x) (rfl:ScSR h3 _ s)
 cases hd:ZDD t x s with
 | true =>
  rw[hd] at hdi;have hall:(K.all fun x=>!ZDD t x s)=false:=by
   rw[List.all_eq_false];exact⟨x,hmem,by rw[hd];simp⟩
  refine ZAJ hmix [0,0,0,6,14,0,63] [0,1,2,3,4,5] (some 6) [([],none)] (by kernel_rfl) (by kernel_rfl) ?_;refine z_r ?_;refine z_m ?_;refine z_m ?_;refine z_i ?_;refine z_r ?_;refine z_r ?_;refine ZAF [0,1,2,3,4,5] (by kernel_rfl) rfl (ZAA rfl) rfl nb rfl (ZAZ rfl rfl rfl rfl rfl Bod.h hdi (fun h5 hE5=>?_));have k15:=hE5.get k1;have k25:=hE5.get k2;have hrow5:=hE5.row hrow3;refine ZAM (ZAA rfl) nb' ?_;refine zy ?_;exact ZAC (ZAD rfl ⟨by rw[hall];rfl,(hE.trans hE3).trans hE5⟩)
 | false =>
  rw[hd] at hdi;refine ZAJ hmix [0,0,0,6,14,0,63] [0,1,2,3,4,5] (some 6) [([],none)] (by kernel_rfl) (by kernel_rfl) ?_;refine z_r ?_;refine z_m ?_;refine z_m ?_;refine z_i ?_;refine z_r ?_;refine z_r ?_;refine ZAF [0,1,2,3,4,5] (by kernel_rfl) rfl (ZAA rfl) rfl nb rfl (ZAZ rfl rfl rfl rfl rfl Bod.h hdi (fun h5 hE5=>?_));have k15:=hE5.get k1;have k25:=hE5.get k2;have hrow5:=hE5.row hrow3;refine ZAM (ZAA rfl) nb' ?_;refine zy ?_;exact⟨k+1,(by show K.length-(k+1)<K.length-k;omega),rfl,hk',hE3.trans hE5,hnx hd,rfl,rfl,rfl,rfl,trivial⟩
def ZE5 (I:List Iv)(last:Int)(E:List Int):Prop:=E.Pairwise (· < ·)/\∀e,e∈E ↔ (∃x∈I,x.e=e)/\e<=last
theorem ZE5.step {I:List Iv}{last nx:Int}{E:List Int}(h:ZE5 I last E)(h1:last<nx)(h2:∃x∈I,x.e=nx)(h3:∀x∈I,last<x.e->nx<=x.e):ZE5 I nx (E++[nx]):=by
 refine⟨List.pairwise_append.2 ⟨h.1,by simp,fun a ha b hb=>?_⟩,fun e=>?_⟩
 ·have:=((h.2 a).1 ha).2
  rw[List.mem_singleton.1 hb];omega
 ·rw[List.mem_append,List.mem_singleton,h.2]
  constructor
  ·rintro (⟨g1,g2⟩|rfl)
   ·exact⟨g1,by omega⟩
   ·exact⟨h2,Int.le_refl _⟩
  ·rintro⟨⟨x,hx,rfl⟩,g⟩
   by_cases c:x.e<=last
   ·exact .inl ⟨⟨x,hx,rfl⟩,c⟩
   ·have:=h3 x hx (by omega)
    exact .inr (by omega)
theorem ZE5.end' {I:List Iv}{last:Int}{E:List Int}(h:ZE5 I last E)(h1:∀x∈I,x.e<=last):ZEa I E :=
 ⟨h.1,fun e=>by
  rw[h.2];exact⟨fun g=>g.1,fun g=>⟨g,by obtain⟨x,hx,rfl⟩:=g;exact h1 x hx⟩⟩⟩
theorem ZE5.len {I:List Iv}{last:Int}{E:List Int}(h:ZE5 I last E):E.length<=I.length:=by
 have hn:E.Nodup:=h.1.imp fun h=>Int.ne_of_lt h
 have hs:E ⊆ I.map Iv.e:=fun e he=>by
  obtain⟨⟨x,hx,rfl⟩,-⟩:=(h.2 e).1 he;exact List.mem_map_of_mem hx
 have:=ZHM hn hs;rw[List.length_map] at this;exact this
set_option maxHeartbeats 8000000 in
theorem ZKh {tc:List Value}{t:ScT}{l:List ScS}{al:Option Addr}{cl:Nat}{h:Heap}(ht:ZBX h tc t)(hO:ScOk t)(hl:ZAN 6 ScSR h al l)(hs0:∀s∈l,ZAQ t s=0)(hlen:l.length<=40):Sv Tryz.prog 116 [.agg ⟨tc⟩,.slice al l.length cl] h (RetP fun v h'=>Ext h h'/\∃E,ZEa (l.map (ivS t)) E/\ZAG h h' v 110 2 ((ZBh (l.map (ivS t)) E).flatMap ZDA) (ZBh (l.map (ivS t)) E).length):=by
 have ht0:=ht;obtain⟨xl,cxl,at',ct,a1,c1,a2,c2,a3,c3,a4,c4,a5,c5,a6,c6,rfl,-⟩:=ht;have hov:=fun {h':Heap} (hE:Ext h h') {s:ScS} (hs:ZAQ t s=0)=>ZDI (ht0.ext hE) hO hs (rfl:ScSR h' _ s);have hmo:=fun {h':Heap} (hE:Ext h h') {b:Int} (hb:0<=b)=>ZFj (b:=b) (cl:=cl) (ht0.ext hE) hO (ZAN.ext (R:=ScSR) (fun x _=>x) hl hE) hs0 hlen hb;have hI:∀x,x∈l.map (ivS t) ↔ ∃k,k<l.length/\ivS t (sAt l k)=x:=ZNv;have hsx:∀{k:Nat},k<l.length->ZAQ t (sAt l k)=0:=fun {k} hk=>by rw[<-ZFZ hk];exact hs0 _ (List.getElem_mem hk)
 have hok:∀x∈l.map (ivS t),x.Ok:=fun x hx=>by
  obtain⟨s,hs,rfl⟩:=List.mem_map.1 hx;exact ZGd (z:=(0,s)) hO (hs0 s hs)
 have hokw:∀x∈l.map (ivS t),x.w<=1000000:=fun x hx=>by
  obtain⟨s,hs,rfl⟩:=List.mem_map.1 hx;obtain⟨-,-,-,-,w1,w2⟩:=ZAo (hs0 s hs);exact w2
 have hrg:∀{k:Nat},k<l.length->1<=(ivS t (sAt l k)).e/\(ivS t (sAt l k)).e<=200000:=fun {k} hk=>by
  have:=ZEQ hO (hsx hk);exact⟨this.1,this.2.1⟩
 have hmb:∀{b:Int},0<=b->b<=200000->0<=ZBH (l.map (ivS t)) b/\ZBH (l.map (ivS t)) b<=200000000000:=fun {b} h1 h2=>by
  have h3:=ZDm hok hokw b.toNat;rw[Int.toNat_of_nonneg h1] at h3;exact⟨ZBo hok h1,by omega⟩
 have hIl:(l.map (ivS t)).length=l.length:=List.length_map _;generalize hIq:l.map (ivS t)=I at *;refine ZAy fun hw=>?_;refine ZAH Tryz.func116 rfl (by rw[Tryz.ntmps116];rfl) ?_;show Wc Tryz.prog ⟨116,59,none⟩ _ _ _ _ _;refine zy ?_;refine ZAa rfl rfl rfl fun h1 hE1 hW1 hg1 hn1=>?_;generalize hq3:h.nx=b1 at hg1 ⊢;refine zy ?_
 refine ZAT (fun (s:Int×List Int×Value) m ds h'=>ds=[]/\(-1<=s.1/\s.1<=200000)/\Ext h1 h'/\ZE5 I s.1 s.2.1/\ZAG h1 h' s.2.2 110 2 ((ZBh I s.2.1).flatMap ZDA) (ZBh I s.2.1).length ∧
   AllK m [(1,.slice al l.length cl),(2,.pointer (some ⟨b1,0,none⟩)),(5,s.2.2),(6,i64 s.1)]) (fun s=>(200000-s.1).toNat) (-1,[],.slice none 0 0) ?_ ?_
 ·refine⟨rfl,⟨by decide,by decide⟩,Ext.refl _,⟨.nil,fun e=>⟨fun h=>(List.not_mem_nil h).elim,fun h=>?_⟩⟩,ZAG.nil _ _ _ _,rfl,rfl,rfl,rfl,trivial⟩
  obtain⟨⟨x,hx,rfl⟩,g⟩:=h;obtain⟨k,hk,rfl⟩:=(hI x).1 hx;have:=(hrg hk).1;simp only at g;omega
 rintro⟨last,E,vo⟩ m ds h2 ⟨rfl,⟨la1,la2⟩,hE2,hTo,hFo,hall⟩;simp only at la1 la2 hTo hFo hall;refine Wc.le ?_ (Le.kn hall);clear hall;have hnx:=ZL4 (iv:=fun k=>ivS t (sAt l k)) (last:=last) (k:=l.length) fun i hi=>(hrg hi).1;refine zy ?_
 refine Wc.mono (Q:=fun z m' ds' h'=>z=.exit 2/\ds'=[]/\Ext h1 h'/\ZAG h1 h' vo 110 2 ((ZBh I E).flatMap ZDA) (ZBh I E).length/\AllK m' [(1,.slice al l.length cl),(2,.pointer (some ⟨b1,0,none⟩)),(5,vo),(6,i64 last),(7,i64 (ZDP (fun k=>ivS t (sAt l k)) last l.length))])
  (ZAT (fun (k:Nat) m ds h'=>ds=[]/\k<=l.length/\Ext h1 h'/\ZAG h1 h' vo 110 2 ((ZBh I E).flatMap ZDA) (ZBh I E).length/\AllK m [(1,.slice al l.length cl),(2,.pointer (some ⟨b1,0,none⟩)),(5,vo),(6,i64 last),(7,i64 (ZDP (fun k=>ivS t (sAt l k)) last k)),(8,i64 k)]) (fun k=>l.length-k) 0 ?_ ?_) ?_
 ·exact⟨rfl,Nat.zero_le _,hE2,hFo,rfl,rfl,rfl,rfl,rfl,rfl,trivial⟩
 ·clear hE2 hFo hnx
  clear h2;rintro k m ds h3 ⟨rfl,hk,hE3,hFo,hall⟩;refine Wc.le ?_ (Le.kn hall);clear hall;refine zy ?_;refine ZAE rfl rfl rfl rfl (ZAW rfl rfl) (fun hkl=>?_) (fun hkl=>?_);rotate_left
  ·have:k=l.length:=by omega
   subst this;refine zy ?_;exact⟨rfl,rfl,hE3,hFo,rfl,rfl,rfl,rfl,rfl,trivial⟩
  have hk':k<l.length:=by omega
  refine zy ?_;obtain⟨bl,ol,oal,rfl,row1,hrow1,hr1⟩:=hl k hk';rw[ZFZ hk'] at hr1;obtain rfl:=hr1;have hE03:=hE1.trans hE3;have hov1:=hov hE03 (hsx hk');have k1:=hE3.get hg1;have hrow3:=hE03.row hrow1;have hsu:ZDP (fun k=>ivS t (sAt l k)) last (k+1)=if last<ZA0 t (sAt l k)/\(ZDP (fun k=>ivS t (sAt l k)) last k<0\/ZA0 t (sAt l k)<ZDP (fun k=>ivS t (sAt l k)) last k) then ZA0 t (sAt l k) else ZDP (fun k=>ivS t (sAt l k)) last k:=ZHy
  generalize ZDP (fun k=>ivS t (sAt l k)) last k=nx at *;refine ZAJ hmix [0,0,0,6,14,31,63] [0,1,2,3,4] (some 5) [([],(some 6)),([],none)] (by kernel_rfl) (by kernel_rfl) ?_;refine z_r ?_;refine z_m ?_;refine z_m ?_;refine z_i ?_;refine z_r ?_;refine ZAF [0,1,2,3,4] (by kernel_rfl) rfl (ZAA rfl) rfl nb rfl (ZAZ rfl rfl rfl rfl rfl Bod.h hov1 (fun h5 hE5=>?_));have k15:=hE5.get k1;have hrow5:=hE5.row hrow3;refine ZAF [0,1,2,3,4,5] (by kernel_rfl) rfl (ZAA rfl) rfl nb rfl (ZAj rfl rfl (ZAO rfl) ?_);refine ZAM (ZAA rfl) nb' ?_;have hE35:=hE3.trans hE5;have hF5:=hFo.ext hE5;generalize ZA0 t (sAt l k)=ov at *
  refine zy ?_;refine ZAE rfl rfl rfl rfl (ZB0 rfl rfl) (fun c1=>?_) (fun c1=>?_);rotate_left
  ·rw[if_neg (fun q=>c1 q.1)] at hsu
   refine zy ?_;exact⟨k+1,(by show l.length-(k+1)<l.length-k;omega),rfl,hk',hE35,hF5,rfl,rfl,rfl,rfl,(by rw[hsu];rfl),rfl,trivial⟩
  refine zy ?_;refine ZAE rfl rfl rfl rfl (ZAW rfl rfl) (fun c2=>?_) (fun c2=>?_)
  ·rw[if_pos ⟨c1,.inl c2⟩] at hsu
   refine zy ?_;exact⟨k+1,(by show l.length-(k+1)<l.length-k;omega),rfl,hk',hE35,hF5,rfl,rfl,rfl,rfl,(by rw[hsu];rfl),rfl,trivial⟩
  refine zy ?_;refine ZAE rfl rfl rfl rfl (ZAW rfl rfl) (fun c3=>?_) (fun c3=>?_)
  ·rw[if_pos ⟨c1,.inr c3⟩] at hsu
   refine zy ?_;exact⟨k+1,(by show l.length-(k+1)<l.length-k;omega),rfl,hk',hE35,hF5,rfl,rfl,rfl,rfl,(by rw[hsu];rfl),rfl,trivial⟩
  ·rw[if_neg (fun q=>q.2.elim c2 c3)] at hsu
   refine zy ?_;exact⟨k+1,(by show l.length-(k+1)<l.length-k;omega),rfl,hk',hE35,hF5,rfl,rfl,rfl,rfl,(by rw[hsu];rfl),rfl,trivial⟩
 clear hE2 hFo;rintro _ m' ds' h3 ⟨rfl,rfl,hE3,hFo,hall⟩
 show Wc _ _ _ _ _ _ _
 refine Wc.le ?_ (Le.kn hall);clear hall;clear h2;generalize ZDP (fun k=>ivS t (sAt l k)) last l.length=nx at *
 rcases hnx with ⟨rfl,hx⟩|⟨hx1,hx2,⟨i0,hi0,hx3⟩,hx4⟩
 ·refine zy ?_
  refine ZAI rfl rfl rfl rfl (A_tt (show (-1:Int)<0 by decide) (ZAW rfl rfl)) ?_;refine zy ?_
  exact ZAC (ZAD rfl ⟨hE1.trans hE3,E,hTo.end' fun x hx'=>by
   obtain⟨k,hk,rfl⟩:=(hI x).1 hx';exact hx k hk,hFo.base hE1.2.1⟩)
 have hnu:nx<=200000:=by rw[<-hx3];exact (hrg hi0).2
 have hTo2:ZE5 I nx (E++[nx]):=hTo.step hx1 ⟨_,(hI _).2 ⟨i0,hi0,rfl⟩,hx3⟩ fun x hx' hl'=>by
  obtain⟨k,hk,rfl⟩:=(hI x).1 hx';exact hx4 k hk hl'
 have hEl:=hTo.len;have hpl:=ZFt (l:=I) (E:=E);have hps:=ZG4 (l:=I) (E:=E) (e:=nx);have hE03:=hE1.trans hE3;have hm1:=hmo hE03 (show 0<=nx by omega);have hr1:=hmb (show 0<=nx by omega) hnu;have hr2:=hmb (show 0<=nx-1 by omega) (by omega);have k1:=hE3.get hg1;have hpr:ZFP I nx=ZBH I nx-ZBH I (nx-1):=rfl;refine zy ?_;refine ZAI rfl rfl rfl rfl (A_ff (show ¬nx<0 by omega) (ZAW rfl rfl)) ?_;refine zy ?_;refine ZAJ hmix [0,0,0,7,0,0,0,64,255,511,1023] [0,1,2,4,5,6,7] (some 3) [([],(some 8)),([9],(some 10)),([],none)] (by kernel_rfl) (by kernel_rfl) ?_;refine z_r ?_;refine z_m ?_;refine z_m ?_;refine z_r ?_;refine z_m ?_;refine z_m ?_;refine ZAB rfl rfl rfl rfl rfl (fun _=>ZE7 rfl rfl (by omega) (by omega)) ?_
 refine ZAF [0,1,2] (by kernel_rfl) rfl (ZAA rfl) rfl nb rfl (ZAZ rfl rfl rfl rfl rfl Bod.h hm1 (fun h5 hE5=>?_));have k15:=hE5.get k1;have hm2:=hmo (hE03.trans hE5) (show 0<=nx-1 by omega);refine ZAF [0,1,2,3,4,5,6,7] (by kernel_rfl) rfl (by refine ZAY (i:=7) rfl rfl rfl rfl rfl (fun _=>ZE7 rfl rfl (by omega) (by omega)) rfl ?_;refine t_m 6 ?_;refine t_m 5 ?_;refine t_r 4 ?_;exact ZAA rfl) rfl nb rfl (ZAZ rfl rfl rfl rfl rfl Bod.h hm2 (fun h6 hE6=>?_));have k16:=hE6.get k15;refine ZAB rfl rfl rfl rfl rfl (fun _=>ZE7 rfl rfl (by omega) (by omega)) ?_;refine ZAF [0,1,2,3,4,5,6,7,8,9] (by kernel_rfl) rfl (ZAA rfl) rfl nb rfl (ZAj rfl rfl (ZAO rfl) ?_)
 refine ZAM (ZAA rfl) nb' ?_;have hE36:=hE3.trans (hE5.trans hE6);have hF6:=(hFo.ext hE5).ext hE6;rw[hpr] at hps;generalize ZBH I nx-ZBH I (nx-1)=pr at *;refine zy ?_;refine ZAE rfl rfl rfl rfl (ZB0 rfl rfl) (fun c1=>?_) (fun c1=>?_)
 ·rw[if_pos c1] at hps
  have hpl2:(ZBh I (E++[nx])).length=(ZBh I E).length+1:=by rw[hps,List.length_append];rfl
  have hpm:(ZBh I (E++[nx])).flatMap ZDA=(ZBh I E).flatMap ZDA++[i64 (nx-1),i64 pr]:=by rw[hps,List.flatMap_append];rfl
  refine zy ?_;refine ZC8 rfl rfl Und.h Tsz.h Zr.h rfl rfl rfl rfl rfl fun h7 hE7 hW7 hg7 hn7=>?_;refine zy ?_;refine ZDK (k:=1) (l:=[i64 (nx-1),i64 pr]) hW1 (hE36.trans hE7) rfl rfl rfl rfl rfl Und.h inferInstance rfl rfl (hF6.ext hE7) (ZBC Und.h (by intro k;simp) (ZAd hg7 rfl)) rfl rfl (by omega) (by omega) fun v8 h8 hF8 hE8 _ _ _=>?_;rw[<-hpl2,<-hpm] at hF8;refine zy ?_;exact⟨(nx,E++[nx],v8),(by show (200000-nx).toNat<(200000-last).toNat;omega),rfl,⟨by show -1<=nx;omega,hnu⟩,hE8,hTo2,hF8,rfl,rfl,rfl,rfl,trivial⟩
 ·rw[if_neg c1,List.append_nil] at hps
  refine zy ?_;exact⟨(nx,E++[nx],vo),(by show (200000-nx).toNat<(200000-last).toNat;omega),rfl,⟨by show -1<=nx;omega,hnu⟩,hE36,hTo2,(by simp only[hps];exact hF6),rfl,rfl,rfl,rfl,trivial⟩
abbrev CI:=ScS×Nat
abbrev ivC (t:ScT)(c:CI):Iv:=ivS t c.1
theorem ZPY {t:ScT}{v:Int}{l:List ScS}:choR (ivC t) 115200 (ZGn t v l) (canS t v l) [] 0=ZDB t v l:=by
 rw[ZLc];have e:(canS t v l).filter (fitA (ivC t) [])=canS t v l:=List.filter_eq_self.2 fun x _=>rfl;rw[e]
 rfl
theorem ZO9 {t:ScT}{W:Int}{C N:List CI}{sum:Int}{k:Nat}(hk:k<C.length):choR (ivC t) 115200 W (C.drop k) N sum=if W<=sum then [] else if fitA (ivC t) N C[k]=false then choR (ivC t) 115200 W (C.drop (k+1)) N sum else if sum+C[k].1.worth+ZBH (((C.drop (k+1)).filter (fitA (ivC t) (N++[C[k]]))).map (ivC t)) 115200=W then C[k]::choR (ivC t) 115200 W (C.drop (k+1)) (N++[C[k]]) (sum+C[k].1.worth) else choR (ivC t) 115200 W (C.drop (k+1)) N sum:=by
 rw[List.drop_eq_getElem_cons hk,choR]
 rfl
theorem ZLv {t:ScT}{v:Int}{N:List CI}{c:CI}(hN:∀x∈N,x.1.venue=v)(hc:c.1.venue=v):((N.map Prod.fst).all fun x=>!ZDD t x c.1)=fitA (ivC t) N c:=by
 unfold fitA;rw[List.all_map]
 induction N with
 | nil=>rfl
 | cons x N ih =>
  rw[List.all_cons,List.all_cons,ih fun y hy=>hN y (List.mem_cons_of_mem _ hy)]
  congr 1
  show (!ZDD t x.1 c.1)=_
  rw[ZHr (by rw[hN x List.mem_cons_self,hc]),Bool.not_not]
def shR (l:List CI):List Value:=(l.map Prod.fst).flatMap shVs
theorem ZRi (l:List CI):(shR l).length=l.length*6:=by unfold shR;rw[ZMn,List.length_map]
theorem ZRB (l:List CI):allOne (shR l)=true:=ZH6 _
theorem ZIT (l:List CI)(c:CI):shR (l++[c])=shR l++shVs c.1:=by unfold shR;rw[List.map_append,List.flatMap_append];simp
def ixR (l:List CI):List Value:=l.map fun c=>i64 (c.2:Int)
theorem ZMC (l:List CI)(c:CI):ixR (l++[c])=ixR l++[i64 (c.2:Int)]:=by unfold ixR;rw[List.map_append];rfl
theorem ZJU {h0 h:Heap}{v:Value}{C:List CI}(hF:ZAG h0 h v 42 6 (shR C) C.length):∃a c,v=.slice a (C.map Prod.fst).length c/\ZAN 6 ScSR h a (C.map Prod.fst):=by
 have h2:ZAG h0 h v 42 6 ((C.map Prod.fst).flatMap shVs) (C.map Prod.fst).length:=by rw[List.length_map];exact hF
 exact ZOo h2
set_option maxHeartbeats 16000000 in
theorem ZIR {tc:List Value}{t:ScT}{v:Int}{l:List ScS}{al:Option Addr}{cl:Nat}{h:Heap}(ht:ZBX h tc t)(hT:t.Fit)(hv:I64 v)(hl:ZAN 6 ScSR h al l)(hlF:∀s∈l,s.Fit)(hL:Len l):Sv Tryz.prog 43 [.agg ⟨tc⟩,i64 v,.slice al l.length cl] h (RetP (ZR0 t v l h)):=by
 have ht0:=ht;obtain⟨xl,cxl,at',ct,a1,c1,a2,c2,a3,c3,a4,c4,a5,c5,a6,c6,rfl,-⟩:=ht;refine ZAy fun hw=>?_;refine ZAH Tryz.func43 rfl (by rw[Tryz.ntmps43];rfl) ?_;show Wc Tryz.prog ⟨43,165,none⟩ _ _ _ _ _;refine zy ?_;refine ZAa rfl rfl rfl fun h1 hE1 hW1 hg1 hn1=>?_;have hb3:h.nx<=h.nx:=Nat.le_refl _;generalize hq3:h.nx=b1 at hg1 ⊢;refine zy ?_;refine ZAS rfl rfl rfl rfl rfl Bod.h rfl rfl (ZEu (ht0.ext hE1) hT) fun h2 hE2=>?_;replace hg1:=hE2.get hg1;replace hE2:=hE1.trans hE2
 by_cases he:ZCU t=0
 rotate_left
 ·have e:ZA4 t v l=ZCU t:=by unfold ZA4;rw[if_pos he]
  generalize ZCU t=er at *;refine zy ?_;refine ZAI rfl rfl rfl rfl (A_ff he (ZAX rfl rfl)) ?_;refine zy ?_;refine ZAI rfl rfl rfl rfl (A_ff he (ZAX rfl rfl)) ?_;refine zy ?_;refine ZAI rfl rfl rfl rfl (A_tt (show ¬er=0 from he) (ZAb rfl rfl)) ?_;refine zy ?_;exact ZAC (ZAD rfl ⟨hE2,.inl ⟨by rw[e];exact he,by rw[e];rfl⟩⟩)
 have hO:=ZOM he;have hvl:t.venues.length<1000000:=Nat.lt_of_le_of_lt hO.venues1.2 (by decide);rw[he];clear hE1 hW1 hn1;refine zy ?_;refine ZAI rfl rfl rfl rfl (A_tt rfl (ZAX rfl rfl)) ?_;refine zy ?_;refine ZAP rfl rfl rfl rfl rfl Bod.h rfl rfl (ZBb _ _ _ _) (fun h4=>?_) (fun h4=>?_);rotate_left
 ·replace h4:=of_decide_eq_false h4
  have e:ZA4 t v l=4:=by unfold ZA4;rw[if_neg (fun q=>q he),if_pos (by omega)]
  refine zy ?_;refine ZAI rfl rfl rfl rfl (A_ff (by decide) (ZAX rfl rfl)) ?_;refine zy ?_;refine ZAI rfl rfl rfl rfl (A_tt (show ¬(4:Int)=0 by decide) (ZAb rfl rfl)) ?_;refine zy ?_;exact ZAC (ZAD rfl ⟨hE2,.inl ⟨by rw[e];decide,by rw[e];rfl⟩⟩)
 replace h4:=of_decide_eq_true h4;have e:ZA4 t v l=ZBT t l:=by unfold ZA4;rw[if_neg (fun q=>q he),if_neg (by omega)]
 have eL:=ZHZ (l:=l) he;refine zy ?_;refine ZAI rfl rfl rfl rfl (A_tt rfl (ZAX rfl rfl)) ?_;refine zy ?_;refine ZAS rfl rfl rfl rfl rfl Bod.h rfl rfl (ZF3 (ht0.ext hE2) hT (ZAN.ext (R:=ScSR) (fun x _=>x) hl hE2) hlF hL) fun h3 hE3=>?_;replace hg1:=hE3.get hg1;replace hE2:=hE2.trans hE3;clear hE3;rw[eL]
 by_cases he2:ZBT t l=0
 rotate_left
 ·refine zy ?_
  refine ZAI rfl rfl rfl rfl (A_tt (show ¬ZBT t l=0 from he2) (ZAb rfl rfl)) ?_;refine zy ?_;exact ZAC (ZAD rfl ⟨hE2,.inl ⟨by rw[e];exact he2,by rw[e];rfl⟩⟩)
 rw[he2];obtain⟨hl40,hsh⟩:=ZHC he2;refine ZCM fun hw3=>?_;have hn3:=hE2.2.1;clear h4;clear h2 h1;refine zy ?_;refine ZAI rfl rfl rfl rfl (A_ff (show ¬¬(0:Int)=0 from fun q=>q rfl) (ZAb rfl rfl)) ?_;refine zy ?_
 refine Wc.mono (Q:=fun z m' ds' h'=>z=.exit 0/\ds'=[]/\Ext h3 h'/\∃vc vi,Own h3 h' [slI h3 vc 42 6 (shR (canS t v l)) (canS t v l).length,slI h3 vi 3 1 (ixR (canS t v l)) (canS t v l).length]/\AllK m' [(3,.pointer (some ⟨b1,0,none⟩)),(11,vc),(12,vi)])
  (ZAT (fun (s:Nat×Value×Value) m ds h'=>ds=[]/\s.1<=l.length/\Ext h3 h'/\Own h3 h' [slI h3 s.2.1 42 6 (shR (canS t v (l.take s.1))) (canS t v (l.take s.1)).length,slI h3 s.2.2 3 1 (ixR (canS t v (l.take s.1))) (canS t v (l.take s.1)).length]/\AllK m [(1,i64 v),(2,.slice al l.length cl),(3,.pointer (some ⟨b1,0,none⟩)),(11,s.2.1),(12,s.2.2),(13,i64 s.1)]) (fun s=>l.length-s.1) (0,.slice none 0 0,.slice none 0 0) ?_ ?_) ?_
 ·exact⟨rfl,Nat.zero_le _,Ext.refl _,((Own.nil h3 h3).nilSl 3 1).nilSl 42 6,rfl,rfl,rfl,rfl,rfl,rfl,trivial⟩
 ·rintro⟨k,vc,vi⟩ m ds h4 ⟨rfl,hk,hE4,hO4,hall⟩
  simp only at hk hO4 hall;refine Wc.le ?_ (Le.kn hall);clear hall;refine zy ?_;refine ZAE rfl rfl rfl rfl (ZAW rfl rfl) (fun hkl=>?_) (fun hkl=>?_);rotate_left
  ·have:k=l.length:=by omega
   subst this;rw[List.take_length] at hO4;refine zy ?_;exact⟨rfl,rfl,hE4,vc,vi,hO4,rfl,rfl,rfl,trivial⟩
  have hk':k<l.length:=by omega
  refine zy ?_;have hstep:=ZHe (t:=t) (v:=v) hk';have hcl:=ZFM (t:=t) (v:=v) (l:=l.take k);rw[List.length_take] at hcl;obtain⟨bl,ol,oal,rfl,row1,hrow1,hr1⟩:=hl k hk';have hs0:=hsh _ (List.getElem_mem hk');generalize l[k]=s at *;obtain rfl:=hr1;have hrow4:=(hE2.trans hE4).row hrow1;have cv4:=ZAR (k:=0) hrow4 rfl;rw[Nat.add_zero] at cv4;have k1:=hE4.get hg1;generalize canS t v (l.take k)=C at *
  by_cases e1:s.venue=v
  rotate_left
  ·rw[if_neg (fun q=>e1 q.1),List.append_nil] at hstep
   refine ZAJ hmix [0,0,3,7,15,0,63,127,255,255,255,1791,3839,8191,16383,32767] [0,1,2,3,4,5,6,7,8,9,10,11,12] (some 13) [([14,15],none)] (by kernel_rfl) (by kernel_rfl) ?_;refine z_m ?_;refine z_m ?_;refine ZAB rfl rfl rfl rfl rfl (fun _=>A_ix (k:=k) Und.h Tsz.h rfl rfl) ?_;refine z_f ?_;refine z_l ?_;refine z_m ?_;refine ZAB rfl rfl rfl rfl rfl (fun _=>A_ff e1 (ZAX rfl rfl)) ?_;refine z_m ?_;refine g_r ?_;refine g_m ?_;refine g_m ?_;refine z_o ?_;refine g_r ?_;refine ZAF [0,1,2,3,4,5,6,7,8,9,10,11,12] (by kernel_rfl) rfl (ZAA rfl) rfl nb rfl (ZBP rfl ?_);refine z_o ?_;refine z_p ?_;refine ZAM (ZAA rfl) nb' ?_
   refine zy ?_;exact⟨(k+1,vc,vi),(by show l.length-(k+1)<l.length-k;omega),rfl,hk',hE4,(by simp only[hstep];exact hO4),rfl,rfl,rfl,rfl,rfl,rfl,trivial⟩
  have hwh:=ZJy (ht0.ext (hE2.trans hE4)) hO hs0 (rfl:ScSR h4 _ s)
  by_cases e2:whyS t s=0
  rotate_left
  ·rw[if_neg (fun q=>e2 q.2),List.append_nil] at hstep
   refine ZAJ hmix [0,0,3,7,15,0,63,127,255,255,255,1791,3839,8191,16383,32767] [0,1,2,3,4,5,6,7,8,9,10,11,12] (some 13) [([14,15],none)] (by kernel_rfl) (by kernel_rfl) ?_;refine z_m ?_;refine z_m ?_;refine ZAB rfl rfl rfl rfl rfl (fun _=>A_ix (k:=k) Und.h Tsz.h rfl rfl) ?_;refine z_f ?_;refine z_l ?_;refine z_m ?_;refine ZAB rfl rfl rfl rfl rfl (fun _=>A_tt e1 (ZAX rfl rfl)) ?_;refine z_m ?_;refine g_r ?_;refine g_m ?_;refine g_m ?_
   first|refine ZAV rfl rfl rfl rfl ?_|refine ZAB rfl rfl rfl rfl rfl (fun _=>A_ix (k:=k) Und.h Tsz.h rfl rfl) ?_
   refine g_r ?_;refine ZAF [0,1,2,3,4,5,6,7,8,9,10,11,12] (by kernel_rfl) rfl (ZAA rfl) rfl nb rfl (ZAZ rfl rfl rfl rfl rfl Bod.h hwh (fun h5 hE5=>?_));have k15:=hE5.get k1;have hrow5:=hE5.row hrow4;have cv5:=hE5.cell cv4
   first|refine ZAV rfl rfl rfl rfl ?_|refine ZAB rfl rfl rfl rfl rfl (fun _=>A_ff e2 (ZAX rfl rfl)) ?_
   refine z_p ?_;refine ZAM (ZAA rfl) nb' ?_;refine zy ?_;exact⟨(k+1,vc,vi),(by show l.length-(k+1)<l.length-k;omega),rfl,hk',hE4.trans hE5,(by simp only[hstep];exact hO4.ext hE5),rfl,rfl,rfl,rfl,rfl,rfl,trivial⟩
  rw[if_pos ⟨e1,e2⟩] at hstep;refine ZAJ hmix [0,0,3,7,15,0,63,127,255,255,255,1791,3839,8191,16383,32767] [0,1,2,3,4,5,6,7,8,9,10,11,12] (some 13) [([14,15],none)] (by kernel_rfl) (by kernel_rfl) ?_;refine z_m ?_;refine z_m ?_;refine ZAB rfl rfl rfl rfl rfl (fun _=>A_ix (k:=k) Und.h Tsz.h rfl rfl) ?_;refine z_f ?_;refine z_l ?_;refine z_m ?_;refine ZAB rfl rfl rfl rfl rfl (fun _=>A_tt e1 (ZAX rfl rfl)) ?_;refine z_m ?_;refine g_r ?_;refine g_m ?_;refine g_m ?_
  first|refine ZAV rfl rfl rfl rfl ?_|refine ZAB rfl rfl rfl rfl rfl (fun _=>A_ix (k:=k) Und.h Tsz.h rfl rfl) ?_
  refine g_r ?_;refine ZAF [0,1,2,3,4,5,6,7,8,9,10,11,12] (by kernel_rfl) rfl (ZAA rfl) rfl nb rfl (ZAZ rfl rfl rfl rfl rfl Bod.h hwh (fun h5 hE5=>?_));have k15:=hE5.get k1;have hrow5:=hE5.row hrow4;have cv5:=hE5.cell cv4
  first|refine ZAV rfl rfl rfl rfl ?_|refine ZAB rfl rfl rfl rfl rfl (fun _=>A_tt e2 (ZAX rfl rfl)) ?_
  refine z_p ?_;refine ZAM (ZAA rfl) nb' ?_;have hO5:=hO4.ext hE5;have hE35:=hE4.trans hE5;have hCl':(C++[(s,k)]).length=C.length+1:=by simp
  refine zy ?_;refine ZAI rfl rfl rfl rfl (A_ix Und.h Tsz.h rfl rfl) ?_;refine zy ?_;refine ZC8 rfl rfl Und.h Tsz.h Zr.h rfl rfl rfl rfl rfl fun h7 hE7 hW7 hg7 hn7=>?_;refine zy ?_;refine ZBV (k:=1) (l:=shVs s) hw3 (hE35.trans hE7) rfl rfl rfl rfl rfl Und.h inferInstance rfl rfl (hO5.ext hE7) (ZBC Und.h (by intro k;simp) (ZAd hg7 rfl)) rfl rfl (by omega) (by omega) fun v8 h8 hW8 hO8 hE8=>?_;rw[<-hCl',<-ZIT C (s,k)] at hO8;refine zy ?_;refine ZC8 rfl rfl Und.h Tsz.h Zr.h rfl rfl rfl rfl rfl fun h9 hE9 hW9 hg9 hn9=>?_;refine zy ?_;refine ZBV (k:=1) (l:=[i64 (k:Int)]) hw3 (hE8.trans hE9) rfl rfl rfl rfl rfl Und.h inferInstance rfl rfl ((hO8.ext hE9).up2) (ZBC Und.h (by intro k;simp) (ZAd hg9 rfl)) rfl rfl (by omega) (by omega) fun v10 h10 hW10 hO10 hE10=>?_
  rw[<-hCl',<-ZMC C (s,k)] at hO10;refine zy ?_;exact⟨(k+1,v8,v10),(by show l.length-(k+1)<l.length-k;omega),rfl,hk',hE10,(by simp only[hstep];exact hO10.up2),rfl,rfl,rfl,rfl,rfl,rfl,trivial⟩
 rintro _ m' ds' h4 ⟨rfl,rfl,hE4,vc,vi,hO4,hall⟩
 show Wc _ _ _ _ _ _ _
 refine ZDG fun hw4=>?_;refine Wc.le ?_ (Le.kn hall);clear hall;have hF1:ZAG h3 h4 vc 42 6 (shR (canS t v l)) (canS t v l).length:=hO4.p1;have hF2:ZAG h3 h4 vi 3 1 (((canS t v l).map fun c=>(c.2:Int)).map i64) (canS t v l).length:=by
  have:=hO4.p2;unfold ixR at this;rw[List.map_map];exact this
 obtain⟨aC,cC,rfl,hRC⟩:=ZJU hF1;obtain⟨aI,rfl,-,hIn⟩:=ZAG.list (enc:=i64) hF2;have hE04:=hE2.trans hE4;replace hg1:=hE4.get hg1;clear hO4 hF1 hF2 hE4
 have hmem:∀c∈canS t v l,ZAQ t c.1=0/\c.1.venue=v:=fun c hc=>by
  obtain⟨h1,h2,h3,h4⟩:=ZLw hc;obtain⟨h5,h6⟩:=List.getElem?_eq_some_iff.1 h2;exact⟨hsh _ (by rw[<-h6];exact List.getElem_mem h5),h3⟩
 have hclen:=ZFM (t:=t) (v:=v) (l:=l);have hch:=ZPY (t:=t) (v:=v) (l:=l)
 have hmemL:∀{L:List CI},(∀c∈L,c∈canS t v l)->∀s∈L.map Prod.fst,ZAQ t s=0:=fun {L} hL s hs=>by
  obtain⟨c,hc,rfl⟩:=List.mem_map.1 hs;exact (hmem c (hL c hc)).1
 have hmI:∀{L:List CI},(∀c∈L,c∈canS t v l)->0<=ZBH (L.map (ivC t)) 115200/\ZBH (L.map (ivC t)) 115200<=115200000000:=fun {L} hL=>by
  have hok:∀x∈L.map (ivC t),x.Ok/\x.w<=1000000:=fun x hx=>by
   obtain⟨c,hc,rfl⟩:=List.mem_map.1 hx;have h0:=(hmem c (hL c hc)).1;obtain⟨-,-,-,-,w1,w2⟩:=ZAo h0;exact⟨ZGd (z:=(0,c.1)) hO h0,w2⟩
  refine⟨ZBo (fun x hx=>(hok x hx).1) (by decide),?_⟩;exact Int.le_trans (ZDm (fun x hx=>(hok x hx).1) (fun x hx=>(hok x hx).2) 115200) (by decide)
 have hmm:∀L:List CI,(L.map Prod.fst).map (ivS t)=L.map (ivC t):=fun L=>by rw[List.map_map];rfl
 have hcI:canI t v l=(canS t v l).map (ivC t):=rfl;have hbw:ZGn t v l=ZBH ((canS t v l).map (ivC t)) 115200:=rfl;have hW0:=hmI (L:=canS t v l) (fun _ h=>h);have hm1:=ZFj (b:=115200) (cl:=cC) (ht0.ext hE04) hO hRC (hmemL fun _ h=>h) (by rw[List.length_map];omega) (by decide);rw[hmm,<-hbw] at hm1;rw[<-hbw] at hW0;have hprc:=fun {h':Heap} (hE':Ext h4 h')=>ZKh (cl:=cC) (ht0.ext (hE04.trans hE')) hO (ZAN.ext (R:=ScSR) (fun x _=>x) hRC hE') (hmemL fun _ h=>h) (by rw[List.length_map];omega);rw[hmm,<-hcI] at hprc;generalize hWq:ZGn t v l=W at *;generalize hCH:ZDB t v l=CH at *;generalize hCq:canS t v l=C at *
 rw[List.length_map] at hm1 hprc;rw[List.length_map];rw[List.length_map];refine zy ?_;refine ZAS rfl rfl rfl rfl rfl Bod.h rfl rfl (hm1) fun h5 hE5=>?_;replace hg1:=hE5.get hg1;replace hRC:=ZAN.ext (R:=ScSR) (fun x _=>x) hRC hE5;replace hIn:=hIn.ext hE5;replace hprc:=fun {h':Heap} (hE':Ext h5 h')=>hprc (hE5.trans hE');replace hE04:=hE04.trans hE5;refine ZCM fun hw5=>?_;clear hE5 hm1 hw4;clear h4;refine zy ?_
 refine Wc.mono (Q:=fun z m' ds' h'=>z=.exit 2/\ds'=[]/\Ext h5 h'/\∃vch,ZAG h5 h' vch 3 1 (ixR CH) CH.length/\AllK m' [(3,.pointer (some ⟨b1,0,none⟩)),(11,.slice aC C.length cC),(15,i64 W),(16,vch)])
  (ZAT (fun (s:Nat×List CI×Int×Value×Value) m ds h'=>ds=[]/\s.1<=C.length/\Ext h5 h'/\Own h5 h' [slI h5 s.2.2.2.1 3 1 (ixR s.2.1) s.2.1.length,slI h5 s.2.2.2.2 42 6 (shR s.2.1) s.2.1.length]/\s.2.1++choR (ivC t) 115200 W (C.drop s.1) s.2.1 s.2.2.1=CH/\(∀c∈s.2.1,c∈C)/\s.2.1.length<=s.1/\(0<=s.2.2.1/\s.2.2.1<=115201000000) ∧
   AllK m [(3,.pointer (some ⟨b1,0,none⟩)),(11,.slice aC C.length cC),(12,.slice aI C.length C.length),(14,i64 115200),(15,i64 W),(16,s.2.2.2.1),(17,s.2.2.2.2),(18,i64 s.2.2.1),(19,i64 s.1)]) (fun s=>C.length-s.1) (0,[],0,.slice none 0 0,.slice none 0 0) ?_ ?_) ?_
 ·exact⟨rfl,Nat.zero_le _,Ext.refl _,((Own.nil h5 h5).nilSl 42 6).nilSl 3 1,hch,(fun _ hc=>(List.not_mem_nil hc).elim),Nat.le_refl _,⟨by decide,by decide⟩,rfl,rfl,rfl,rfl,rfl,rfl,rfl,rfl,rfl,trivial⟩
 ·rintro⟨i,N,sum,vch,vnow⟩ m ds h6 ⟨rfl,hi,hE6,hO6,hN,hNm,hNl,⟨hs0,hs1⟩,hall⟩
  simp only at hi hO6 hN hNm hNl hs0 hs1 hall;refine Wc.le ?_ (Le.kn hall);clear hall;refine zy ?_;refine ZAE rfl rfl rfl rfl (ZAW rfl rfl) (fun hil=>?_) (fun hil=>?_);rotate_left
  ·have:i=C.length:=by omega
   subst this;have hdl:C.drop C.length=[]:=List.drop_length;rw[hdl] at hN;have hNC:N=CH:=by rw[<-hN];simp[choR]
   have hFc:ZAG h5 h6 vch 3 1 (ixR N) N.length:=hO6.p1;rw[hNC] at hFc;refine zy ?_;exact⟨rfl,rfl,hE6,vch,hFc,rfl,rfl,rfl,rfl,trivial⟩
  have hi':i<C.length:=by omega
  have hdr:=ZO9 (t:=t) (W:=W) (N:=N) (sum:=sum) hi';refine zy ?_;refine ZAE rfl rfl rfl rfl (ZAW rfl rfl) (fun hsw=>?_) (fun hsw=>?_);rotate_left
  ·rw[hdr,if_pos (by omega),List.append_nil] at hN
   have hFc:ZAG h5 h6 vch 3 1 (ixR N) N.length:=hO6.p1;rw[hN] at hFc;refine zy ?_;exact⟨rfl,rfl,hE6,vch,hFc,rfl,rfl,rfl,rfl,trivial⟩
  rw[if_neg (by omega)] at hdr;refine zy ?_;have him:i<(C.map Prod.fst).length:=by rw[List.length_map];exact hi'
  obtain⟨bC,oC,oaC,rfl,rowC,hrowC,hrC⟩:=hRC i him;rw[List.getElem_map] at hrC;obtain⟨hc0,hcv⟩:=hmem _ (List.getElem_mem hi');have hcm:C[i]∈C:=List.getElem_mem hi';obtain⟨bI,oI,oaI,rfl,hcI2⟩:=hIn i (by rw[List.length_map];exact hi');rw[List.getElem_map] at hcI2;generalize C[i]=c at *;obtain rfl:=hrC;have hFn:ZAG h5 h6 vnow 42 6 (shR N) N.length:=hO6.p2;obtain⟨aN,cN,rfl,hRN⟩:=ZJU hFn;have hE06:=hE04.trans hE6;have hft:=ZH0 (ck:=cN) (ht0.ext hE06) hO hRN (hmemL hNm) hc0 (rfl:ScSR h6 _ c.1) (by rw[List.length_map];omega);rw[ZLv (fun x hx=>(hmem x (hNm x hx)).2) hcv] at hft;have k1:=hE6.get hg1;have hrow6:=hE6.row hrowC
  have hci6:=hE6.cell hcI2;have hns:=hE6.2.1
  cases hf:fitA (ivC t) N c with
  | false =>
   rw[hf,if_pos rfl] at hdr;rw[hf] at hft;refine ZAJ hmix [0,0,0,0,12,28,63,127] [0,1,2,3,4,5] (some 6) [([7],none)] (by kernel_rfl) (by kernel_rfl) ?_;refine z_r ?_;refine z_m ?_;refine z_m ?_;refine z_m ?_;refine ZAB rfl rfl rfl rfl rfl (fun _=>A_ix (k:=i) Und.h Tsz.h rfl rfl) ?_;refine z_r ?_;refine ZAF [0,1,2,3,4,5] (by kernel_rfl) rfl (ZAA rfl) rfl nb rfl (ZAZ rfl rfl rfl rfl rfl Bod.h hft (fun h7 hE7=>?_));have k17:=hE7.get k1;have hrow7:=hE7.row hrow6;refine z_n ?_;refine ZAM (ZAA rfl) nb' ?_;refine zy ?_;exact⟨(i+1,N,sum,vch,.slice aN (N.map Prod.fst).length cN),(by show C.length-(i+1)<C.length-i;omega),rfl,hi',hE6.trans hE7,hO6.ext hE7,(by rw[<-hN,hdr]),hNm,(by show N.length<=i+1;omega),⟨hs0,hs1⟩,rfl,rfl,rfl,rfl,rfl,rfl,rfl,rfl,rfl,trivial⟩
  | true =>
  rw[hf,if_neg (by simp)] at hdr;rw[hf] at hft;refine ZAJ hmix [0,0,0,0,12,28,63,127] [0,1,2,3,4,5] (some 6) [([7],none)] (by kernel_rfl) (by kernel_rfl) ?_;refine z_r ?_;refine z_m ?_;refine z_m ?_;refine z_m ?_;refine ZAB rfl rfl rfl rfl rfl (fun _=>A_ix (k:=i) Und.h Tsz.h rfl rfl) ?_;refine z_r ?_;refine ZAF [0,1,2,3,4,5] (by kernel_rfl) rfl (ZAA rfl) rfl nb rfl (ZBS (ZAZ rfl rfl rfl rfl rfl Bod.h hft (fun h7 hE7 hw7=>?_)));have k17:=hE7.get k1;have hrow7:=hE7.row hrow6;refine z_n ?_;refine ZAM (ZAA rfl) nb' ?_;have hE57:=hE6.trans hE7;have hO7:=hO6.ext hE7;have hn57:=hE57.2.1;have hEa0:=Ext.add hw7 (.cells [] 42 false)
  have hEa:=hEa0.trans (Ext.rsv (Heap.add h7 (.cells [] 42 false)));have hOa0:Own h5 (Heap.add h7 (.cells [] 42 false)) [slI h5 (.slice (some ⟨h7.nx,0,none⟩) 0 0) 42 6 [] 0,slI h5 vch 3 1 (ixR N) N.length,slI h5 (.slice aN (N.map Prod.fst).length cN) 42 6 (shR N) N.length]:=hO7.newSl hw7 hn57 hEa0 (ZAG.lit Heap.get_add_same rfl (Nat.le_refl _));have hne:=hOa0.ne (hw7.add _) (Nat.le_refl (h7.nx+1));have hFna:ZAG h5 (rsv (Heap.add h7 (.cells [] 42 false))) (.slice aN (N.map Prod.fst).length cN) 42 6 (shR N) N.length:=(show ZAG h5 h7 _ _ _ _ _ from hO7.p2).ext hEa;have hNc':(N++[c]).length=N.length+1:=by simp
  have hrowa:=hEa.row hrow7;refine zy ?_;refine ZAJ hmix [0,0,3,0,0,24,56,120,255,511] [0,1,3,4,5,6,7] (some 2) [([],(some 8)),([],(some 9)),([],none)] (by kernel_rfl) (by kernel_rfl) ?_;refine ZCb (nk:=.sl _ _) rfl rfl rfl rfl rfl (fun _ _ hs=>N_bs hs Und.h Tsz.h Zr.h rfl rfl rfl rfl rfl) ?_;refine z_m ?_;refine z_m ?_;refine z_m ?_;refine ZAB rfl rfl rfl rfl rfl (fun _=>A_ix (k:=i) Und.h Tsz.h rfl rfl) ?_;refine z_r ?_;refine ZCb (nk:=.sl _ _) rfl rfl rfl rfl rfl (fun _ _ hs=>N_bs hs Und.h Tsz.h Zr.h rfl rfl rfl rfl rfl) ?_;refine ZAF (h1:=(rsv (Heap.add h7 _))) [0,1] (by kernel_rfl) rfl (ZAA rfl) rfl rfl rfl (ZBS (ZFq (n1:=h7.nx+1) (by':=48) (sz:=6) (k:=N.length) (n:=0) (l:=shR N) rfl hw5 (hE57.trans hEa) rfl rfl rfl rfl Und.h inferInstance rfl rfl (hOa0.ext (Ext.rsv _)) (hFna.src (dd:=.slice 42) Und.h (by intro k;simp)) (ZRi N) (ZRB N) (by omega) (by omega) hne (Nat.lt_succ_self _) (fun v12 h12 hO13 hE12 hne12 hn12 hw12=>?_)))
  have hU12:=Upd.mk' h12 (h7.nx+1) (.cells (shVs c.1) 42 false);have hO13':=hO13.other (.cells (shVs c.1) 42 false) hne12;have hE12':=hU12.ext hE12 hw5 (Nat.le_succ_of_le hn57);have hrow12:=hE12.row hrowC;have hrow12':=hE12'.row hrowC;rw[List.nil_append,Nat.zero_add] at hO13';refine ZAF (h1:=(h12.set (h7.nx+1) (.cells (shVs c.1) 42 false))) [0,1,2,3,4,5,6,7] (by kernel_rfl) rfl (by refine ZK9 (i:=7) (nk:=.sl _ _) rfl rfl rfl rfl rfl (fun _ _ hs=>N_bs hs Und.h Tsz.h Zr.h rfl rfl rfl rfl rfl) rfl ?_;refine t_r 6 ?_;refine ZAY (i:=5) rfl rfl rfl rfl rfl (fun _=>A_ix (k:=i) Und.h Tsz.h rfl rfl) rfl ?_;refine t_m 4 ?_;refine t_m 3 ?_;exact ZAA rfl) rfl rfl rfl (ZBS (ZDW (by':=48) (sz:=6) (k:=1) (n:=N.length) (l:=shVs c.1) rfl hw5 hE12' rfl rfl rfl rfl Und.h inferInstance rfl rfl hO13' ((ZAG.lit (h0:=h5) (n:=1) (sz:=6) hU12.at' rfl (Nat.le_succ_of_le hn57)).src (dd:=.slice 42) Und.h (by intro k;simp)) rfl rfl (by omega) (by omega) (fun v14 h14 hO15 hE14 hw14=>?_)))
  rw[<-hNc',<-ZIT N c] at hO15;refine ZAF (h1:=h14) [0,1,2,3,4,5,6,7,8] (by kernel_rfl) rfl (ZAA rfl) rfl rfl rfl (ZAj rfl rfl (ZAO rfl) ?_);refine ZAM (h1:=h14) (ZAA rfl) rfl ?_
  have hNm2:∀x∈N++[c],x∈C:=fun x hx=>by
   rcases List.mem_append.1 hx with g|g
   ·exact hNm x g
   ·rw[List.mem_singleton.1 g];exact hcm
  have hFw:ZAG h5 h14 v14 42 6 (shR (N++[c])) (N++[c]).length:=hO15.p1;obtain⟨aW,cW,rfl,hRW⟩:=ZJU hFw;clear hO13 hO13' hE12 hE12' hU12 hne12 hn12 hw12 hrow12 hrow12' hrowa hFna hne hOa0 hEa hEa0 hO7 hrow7 k17 hw7 hE57 hE7 hn57;refine zy ?_
  refine Wc.mono (Q:=fun z m' ds' h'=>z=.exit 4/\ds'=[]/\Ext h5 h'/\∃vr,Own h5 h' [slI h5 vr 42 6 (shR ((C.drop (i+1)).filter (fitA (ivC t) (N++[c])))) ((C.drop (i+1)).filter (fitA (ivC t) (N++[c]))).length,slI h5 (.slice aW ((N++[c]).map Prod.fst).length cW) 42 6 (shR (N++[c])) (N++[c]).length,slI h5 vch 3 1 (ixR N) N.length,slI h5 (.slice aN (N.map Prod.fst).length cN) 42 6 (shR N) N.length] ∧
    AllK m' [(3,.pointer (some ⟨b1,0,none⟩)),(11,.slice (some ⟨bC,oC,oaC⟩) C.length cC),(12,.slice (some ⟨bI,oI,oaI⟩) C.length C.length),(14,i64 115200),(15,i64 W),(16,vch),(17,.slice aN (N.map Prod.fst).length cN),(18,i64 sum),(19,i64 i),(20,.slice aW ((N++[c]).map Prod.fst).length cW),(21,vr)])
   (ZAT (fun (s:Nat×Value) m ds h'=>ds=[]/\(i+1<=s.1/\s.1<=C.length)/\Ext h5 h'/\Own h5 h' [slI h5 s.2 42 6 (shR (((C.take s.1).drop (i+1)).filter (fitA (ivC t) (N++[c])))) (((C.take s.1).drop (i+1)).filter (fitA (ivC t) (N++[c]))).length,slI h5 (.slice aW ((N++[c]).map Prod.fst).length cW) 42 6 (shR (N++[c])) (N++[c]).length,slI h5 vch 3 1 (ixR N) N.length,slI h5 (.slice aN (N.map Prod.fst).length cN) 42 6 (shR N) N.length] ∧
    AllK m [(3,.pointer (some ⟨b1,0,none⟩)),(11,.slice (some ⟨bC,oC,oaC⟩) C.length cC),(12,.slice (some ⟨bI,oI,oaI⟩) C.length C.length),(14,i64 115200),(15,i64 W),(16,vch),(17,.slice aN (N.map Prod.fst).length cN),(18,i64 sum),(19,i64 i),(20,.slice aW ((N++[c]).map Prod.fst).length cW),(21,s.2),(22,i64 s.1)]) (fun s=>C.length-s.1) (i+1,.slice none 0 0) ?_ ?_) ?_
  ·have hnil:((C.take (i+1)).drop (i+1)).filter (fitA (ivC t) (N++[c]))=[]:=by
    rw[List.drop_eq_nil_of_le (by rw[List.length_take];omega)];rfl
   refine⟨rfl,⟨Nat.le_refl _,hi'⟩,hE14,?_,rfl,rfl,rfl,rfl,rfl,rfl,rfl,rfl,rfl,rfl,rfl,rfl,trivial⟩;simp only[hnil];exact hO15.nilSl 42 6
  ·clear hO15 hE14 hRW hFw
   rintro⟨k,vr⟩ m ds h7 ⟨rfl,⟨hk0,hk⟩,hE7,hO7,hall⟩;simp only at hk0 hk hO7 hall;refine Wc.le ?_ (Le.kn hall);clear hall;refine zy ?_;refine ZAE rfl rfl rfl rfl (ZAW rfl rfl) (fun hkl=>?_) (fun hkl=>?_);rotate_left
   ·have:k=C.length:=by omega
    subst this;rw[List.take_length] at hO7;refine zy ?_;exact⟨rfl,rfl,hE7,vr,hO7,rfl,rfl,rfl,rfl,rfl,rfl,rfl,rfl,rfl,rfl,rfl,trivial⟩
   have hk':k<C.length:=by omega
   refine zy ?_;have hkm:k<(C.map Prod.fst).length:=by rw[List.length_map];exact hk'
   obtain⟨bC2,oC2,oaC2,eC2,rowC2,hrowC2,hrC2⟩:=hRC k hkm;cases eC2;rw[List.getElem_map] at hrC2;obtain⟨hx0,hxv⟩:=hmem _ (List.getElem_mem hk');have htk:(C.take (k+1)).drop (i+1)=(C.take k).drop (i+1)++[C[k]]:=by
    rw[List.take_add_one,List.getElem?_eq_getElem hk',List.drop_append_of_le_length (by rw[List.length_take];omega)]
    rfl
   have hflt:((C.take (k+1)).drop (i+1)).filter (fitA (ivC t) (N++[c]))=((C.take k).drop (i+1)).filter (fitA (ivC t) (N++[c]))++if fitA (ivC t) (N++[c]) C[k]=true then [C[k]] else []:=by
    rw[htk,List.filter_append];cases hq:fitA (ivC t) (N++[c]) C[k] <;> simp[hq]
   have hRl:(((C.take k).drop (i+1)).filter (fitA (ivC t) (N++[c]))).length<=40:=by
    have h1:=List.length_filter_le (fitA (ivC t) (N++[c])) ((C.take k).drop (i+1));rw[List.length_drop,List.length_take] at h1;omega
   generalize hRq:((C.take k).drop (i+1)).filter (fitA (ivC t) (N++[c]))=R at *;generalize C[k]=x at *;obtain rfl:=hrC2;have hFw7:ZAG h5 h7 (.slice aW ((N++[c]).map Prod.fst).length cW) 42 6 (shR (N++[c])) (N++[c]).length:=hO7.p2;obtain⟨aW2,cW2,eW2,hRW⟩:=ZJU hFw7;cases eW2;have hE07:=hE04.trans hE7;have hft2:=ZH0 (ck:=cW) (ht0.ext hE07) hO hRW (hmemL hNm2) hx0 (rfl:ScSR h7 _ x.1) (by rw[List.length_map];omega);rw[ZLv (fun x hx=>(hmem x (hNm2 x hx)).2) hxv] at hft2;have k17:=hE7.get hg1;have hrow7:=hE7.row hrowC2
   cases hf2:fitA (ivC t) (N++[c]) x with
   | false =>
    rw[hf2,if_neg (by simp),List.append_nil] at hflt;rw[hf2] at hft2;refine ZAJ hmix [0,0,0,0,12,28,63] [0,1,2,3,4,5] (some 6) [([],none)] (by kernel_rfl) (by kernel_rfl) ?_;refine z_r ?_;refine z_m ?_;refine z_m ?_;refine z_m ?_;refine ZAB rfl rfl rfl rfl rfl (fun _=>A_ix (k:=k) Und.h Tsz.h rfl rfl) ?_;refine z_r ?_;refine ZAF [0,1,2,3,4,5] (by kernel_rfl) rfl (ZAA rfl) rfl nb rfl (ZAZ rfl rfl rfl rfl rfl Bod.h hft2 (fun h8 hE8=>?_));have k18:=hE8.get k17;have hrow8:=hE8.row hrow7;refine ZAM (ZAA rfl) nb' ?_;refine zy ?_;exact⟨(k+1,vr),(by show C.length-(k+1)<C.length-k;omega),rfl,⟨by show i+1<=k+1;omega,hk'⟩,hE7.trans hE8,(by simp only[hflt];exact hO7.ext hE8),rfl,rfl,rfl,rfl,rfl,rfl,rfl,rfl,rfl,rfl,rfl,rfl,trivial⟩
   | true =>
    rw[hf2,if_pos rfl] at hflt;rw[hf2] at hft2;have hRl':(R++[x]).length=R.length+1:=by simp
    refine ZAJ hmix [0,0,0,0,12,28,63] [0,1,2,3,4,5] (some 6) [([],none)] (by kernel_rfl) (by kernel_rfl) ?_;refine z_r ?_;refine z_m ?_;refine z_m ?_;refine z_m ?_;refine ZAB rfl rfl rfl rfl rfl (fun _=>A_ix (k:=k) Und.h Tsz.h rfl rfl) ?_;refine z_r ?_;refine ZAF [0,1,2,3,4,5] (by kernel_rfl) rfl (ZAA rfl) rfl nb rfl (ZAZ rfl rfl rfl rfl rfl Bod.h hft2 (fun h8 hE8=>?_));have k18:=hE8.get k17;have hrow8:=hE8.row hrow7;refine ZAM (ZAA rfl) nb' ?_;have hE58:=hE7.trans hE8;have hO8:=hO7.ext hE8;refine zy ?_;refine ZAI rfl rfl rfl rfl (A_ix Und.h Tsz.h rfl rfl) ?_;refine zy ?_;refine ZC8 rfl rfl Und.h Tsz.h Zr.h rfl rfl rfl rfl rfl fun h9 hE9 hW9 hg9 hn9=>?_
    refine zy ?_;refine ZBV (k:=1) (l:=shVs x.1) hw5 (hE58.trans hE9) rfl rfl rfl rfl rfl Und.h inferInstance rfl rfl (hO8.ext hE9) (ZBC Und.h (by intro k;simp) (ZAd hg9 rfl)) rfl rfl (by omega) (by omega) fun v10 h10 hW10 hO10 hE10=>?_;rw[<-hRl',<-ZIT R x] at hO10;refine zy ?_;exact⟨(k+1,v10),(by show C.length-(k+1)<C.length-k;omega),rfl,⟨by show i+1<=k+1;omega,hk'⟩,hE10,(by simp only[hflt];exact hO10),rfl,rfl,rfl,rfl,rfl,rfl,rfl,rfl,rfl,rfl,rfl,rfl,trivial⟩
  clear hO15 hE14 hRW hFw;rintro _ m' ds' h7 ⟨rfl,rfl,hE7,vr,hO7,hall⟩
  show Wc _ _ _ _ _ _ _
  refine Wc.le ?_ (Le.kn hall);clear hall;have hRm:∀x∈(C.drop (i+1)).filter (fitA (ivC t) (N++[c])),x∈C:=fun x hx=>List.mem_of_mem_drop (List.mem_filter.1 hx).1;have hRl:((C.drop (i+1)).filter (fitA (ivC t) (N++[c]))).length<=40:=by
   have h1:=List.length_filter_le (fitA (ivC t) (N++[c])) (C.drop (i+1));rw[List.length_drop] at h1;omega
  generalize hRq:(C.drop (i+1)).filter (fitA (ivC t) (N++[c]))=R at *;have hFr:ZAG h5 h7 vr 42 6 (shR R) R.length:=hO7.p1;obtain⟨aR,cR,rfl,hRR⟩:=ZJU hFr;have hE07:=hE04.trans hE7;have hm2:=ZFj (b:=115200) (cl:=cR) (ht0.ext hE07) hO hRR (hmemL hRm) (by rw[List.length_map];omega) (by decide);rw[hmm] at hm2;have hWR:=hmI hRm;have k17:=hE7.get hg1;have hrow7:=hE7.row hrowC;have hci7:=hE7.cell hcI2;have cw7:=ZAR (k:=5) hrow7 rfl;obtain⟨-,-,-,-,w1,w2⟩:=ZAo hc0;generalize ZBH (R.map (ivC t)) 115200=B at *;refine zy ?_
  by_cases hc:sum+c.1.worth+B=W
  rotate_left
  ·rw[if_neg hc] at hdr
   refine ZAJ hmix [0,0,0,6,14,30,63,0,0,0,896,2047,0,8191] [0,1,2,3,4,5,6,7,8,9,12] (some 10) [([11,13],none)] (by kernel_rfl) (by kernel_rfl) ?_;refine z_m ?_;refine z_m ?_;refine z_m ?_;refine ZAB rfl rfl rfl rfl rfl (fun _=>A_ix (k:=i) Und.h Tsz.h rfl rfl) ?_;refine z_f ?_;refine z_l ?_;refine ZAB rfl rfl rfl rfl rfl (fun _=>ZCH rfl rfl (by omega) (by omega)) ?_;refine z_r ?_;refine z_m ?_;refine z_m ?_;refine z_m ?_;refine ZAF [7,8,9] (by kernel_rfl) rfl (ZAA rfl) rfl nb rfl (ZAZ rfl rfl rfl rfl rfl Bod.h hm2 (fun h8 hE8=>?_));have k18:=hE8.get k17;have hrow8:=hE8.row hrow7;have cw8:=hE8.cell cw7
   refine ZAB rfl rfl rfl rfl rfl (fun _=>ZCH rfl rfl (by omega) (by omega)) ?_;refine ZAB rfl rfl rfl rfl rfl (fun _=>A_ff hc (ZAX rfl rfl)) ?_;refine ZAM (by refine t_m 12 ?_;refine ZAY (i:=6) rfl rfl rfl rfl rfl (fun _=>ZCH rfl rfl (by omega) (by omega)) rfl ?_;refine t_l 5 ?_;refine t_f 4 ?_;refine ZAY (i:=3) rfl rfl rfl rfl rfl (fun _=>A_ix (k:=i) Und.h Tsz.h rfl rfl) rfl ?_;refine t_m 2 ?_;refine t_m 1 ?_;refine t_m 0 ?_;exact ZAA rfl) nb' ?_;refine zy ?_;refine⟨(i+1,N,sum,vch,.slice aN (N.map Prod.fst).length cN),(by show C.length-(i+1)<C.length-i;omega),rfl,hi',hE7.trans hE8,(hO7.ext hE8).sub (.cons _ (.cons _ (List.Sublist.refl _))),(by rw[<-hN,hdr]),hNm,(by show N.length<=i+1;omega),⟨hs0,hs1⟩,rfl,rfl,rfl,rfl,rfl,rfl,rfl,rfl,rfl,trivial⟩
  rw[if_pos hc] at hdr;have hNc2:(N++[c]).length=N.length+1:=by simp
  refine ZAJ hmix [0,0,0,6,14,30,63,0,0,0,896,2047,0,8191] [0,1,2,3,4,5,6,7,8,9,12] (some 10) [([11,13],none)] (by kernel_rfl) (by kernel_rfl) ?_;refine z_m ?_;refine z_m ?_;refine z_m ?_;refine ZAB rfl rfl rfl rfl rfl (fun _=>A_ix (k:=i) Und.h Tsz.h rfl rfl) ?_;refine z_f ?_;refine z_l ?_;refine ZAB rfl rfl rfl rfl rfl (fun _=>ZCH rfl rfl (by omega) (by omega)) ?_;refine z_r ?_;refine z_m ?_;refine z_m ?_;refine z_m ?_;refine ZAF [7,8,9] (by kernel_rfl) rfl (ZAA rfl) rfl nb rfl (ZBS (ZAZ rfl rfl rfl rfl rfl Bod.h hm2 (fun h8 hE8 hw8=>?_)));have k18:=hE8.get k17;have hrow8:=hE8.row hrow7;have hci8:=hE8.cell hci7
  have cw8:=hE8.cell cw7;refine ZAB rfl rfl rfl rfl rfl (fun _=>ZCH rfl rfl (by omega) (by omega)) ?_;refine ZAB rfl rfl rfl rfl rfl (fun _=>A_tt hc (ZAX rfl rfl)) ?_;refine ZAM (by refine t_m 12 ?_;refine ZAY (i:=6) rfl rfl rfl rfl rfl (fun _=>ZCH rfl rfl (by omega) (by omega)) rfl ?_;refine t_l 5 ?_;refine t_f 4 ?_;refine ZAY (i:=3) rfl rfl rfl rfl rfl (fun _=>A_ix (k:=i) Und.h Tsz.h rfl rfl) rfl ?_;refine t_m 2 ?_;refine t_m 1 ?_;refine t_m 0 ?_;exact ZAA rfl) nb' ?_;have hE58:=hE7.trans hE8;have hO8:=hO7.ext hE8;have hEa:=Ext.add hw8 (.cells [i64 (c.2:Int)] 3 false);have hrowa:=hEa.row hrow8
  have cwa:=hEa.cell cw8;have hn58:=hE58.2.1;refine zy ?_;refine ZAJ hmix [0,0,0,6,14,30,63,0,0,0,0,1536,3584,7680,16128,127,33023,131071] [0,1,2,3,4,5,7,8,9,10,11,12,13,14] (some 6) [([],(some 15)),([],(some 16)),([],(some 17)),([],none)] (by kernel_rfl) (by kernel_rfl) ?_;refine z_m ?_;refine z_m ?_;refine z_m ?_;refine ZAB rfl rfl rfl rfl rfl (fun _=>A_ix (k:=i) Und.h Tsz.h rfl rfl) ?_;refine z_l ?_;refine ZCb (nk:=.sl _ _) rfl rfl rfl rfl rfl (fun _ _ hs=>N_bs hs Und.h Tsz.h Zr.h rfl rfl rfl rfl rfl) ?_;refine z_m ?_;refine z_m ?_;refine z_m ?_;refine z_m ?_;refine ZAB rfl rfl rfl rfl rfl (fun _=>A_ix (k:=i) Und.h Tsz.h rfl rfl) ?_;refine z_f ?_;refine z_l ?_;refine ZAB rfl rfl rfl rfl rfl (fun _=>ZCH rfl rfl (by omega) (by omega)) ?_
  refine ZAF (h1:=(Heap.add h8 _)) [0,1,2,3,4,5] (by kernel_rfl) rfl (ZAA rfl) rfl rfl rfl (ZBS (ZDW (by':=8) (sz:=1) (k:=1) (n:=N.length) (l:=[i64 (c.2:Int)]) rfl hw5 (hE58.trans hEa) rfl rfl rfl rfl Und.h inferInstance rfl rfl ((hO8.ext hEa).pick 2 rfl) ((ZAG.lit (h0:=h5) (n:=1) (sz:=1) Heap.get_add_same rfl hn58).src (dd:=.slice 3) Und.h (by intro k;simp)) rfl rfl (by omega) (by omega) (fun v10 h10 hO10 hE10 hw10=>?_)));rw[<-hNc2,<-ZMC N c] at hO10;have hrow10:=hE10.row hrowC;have cw10:=ZAR (k:=5) hrow10 rfl;refine ZAF (h1:=h10) [0,1,2,3,4,5,6] (by kernel_rfl) rfl (by refine ZAY (i:=14) rfl rfl rfl rfl rfl (fun _=>ZCH rfl rfl (by omega) (by omega)) rfl ?_;refine t_l 13 ?_;refine t_f 12 ?_;refine ZAY (i:=11) rfl rfl rfl rfl rfl (fun _=>A_ix (k:=i) Und.h Tsz.h rfl rfl) rfl ?_;refine t_m 10 ?_;refine t_m 9 ?_;refine t_m 8 ?_;refine t_m 7 ?_;exact ZAA rfl) rfl rfl rfl (ZAj rfl rfl (ZAO rfl) ?_)
  refine ZAF (h1:=h10) [0,1,2,3,4,5,6,7,15] (by kernel_rfl) rfl (by refine ZAY (i:=14) rfl rfl rfl rfl rfl (fun _=>ZCH rfl rfl (by omega) (by omega)) rfl ?_;refine t_l 13 ?_;refine t_f 12 ?_;refine ZAY (i:=11) rfl rfl rfl rfl rfl (fun _=>A_ix (k:=i) Und.h Tsz.h rfl rfl) rfl ?_;refine t_m 10 ?_;refine t_m 9 ?_;refine t_m 8 ?_;refine t_m 7 ?_;exact ZAA rfl) rfl rfl rfl (ZAj rfl rfl (ZAO rfl) ?_);refine ZAF (h1:=h10) [0,1,2,3,4,5,6,7,8,9,10,11,12,13,14,15,16] (by kernel_rfl) rfl (by refine ZAY (i:=14) rfl rfl rfl rfl rfl (fun _=>ZCH rfl rfl (by omega) (by omega)) rfl ?_;refine t_l 13 ?_;refine t_f 12 ?_;refine ZAY (i:=11) rfl rfl rfl rfl rfl (fun _=>A_ix (k:=i) Und.h Tsz.h rfl rfl) rfl ?_;refine t_m 10 ?_;refine t_m 9 ?_;refine t_m 8 ?_;exact ZAA rfl) rfl rfl rfl (ZAj rfl rfl (ZAO rfl) ?_)
  refine ZAM (h1:=h10) (ZAA rfl) rfl ?_;refine zy ?_;refine⟨(i+1,N++[c],sum+c.1.worth,v10,.slice aW ((N++[c]).map Prod.fst).length cW),(by show C.length-(i+1)<C.length-i;omega),rfl,hi',hE10,?_,?_,hNm2,(by show (N++[c]).length<=i+1;omega),⟨by show 0<=sum+c.1.worth;omega,by show sum+c.1.worth<=_;omega⟩,rfl,rfl,rfl,rfl,rfl,rfl,rfl,rfl,rfl,trivial⟩
  ·exact hO10.sub (.cons_cons _ (.cons _ (.cons_cons _ (List.nil_sublist _))))
  ·show (N++[c])++choR (ivC t) 115200 W (C.drop (i+1)) (N++[c]) (sum+c.1.worth)=CH
   rw[<-hN,hdr,List.append_assoc]
   rfl
 rintro _ m' ds' h6 ⟨rfl,rfl,hE6,vch,hFc,hall⟩
 show Wc _ _ _ _ _ _ _
 refine Wc.le ?_ (Le.kn hall);clear hall;have k1:=hE6.get hg1;have hp6:=hprc hE6;refine zy ?_;refine ZAq rfl rfl rfl rfl rfl Bod.h rfl rfl hp6 ?_;rintro vp h7 ⟨hE7,E,hEn,hFp⟩;have hn05:=hE04.2.1;have hn06:=(hE04.trans hE6).2.1;refine zy ?_;refine ZAC (ZAD rfl ⟨(hE04.trans hE6).trans hE7,.inr ⟨by rw[e];exact he2,vch,vp,E,?_,?_,?_,?_⟩⟩)
 ·rw[hWq];rfl
 ·rw[hCH]
  have h1:=(ZAG.base (h0:=h) hFc hn05).ext hE7;unfold ixR at h1;rw[List.map_map];exact h1
 ·exact hEn
 ·exact hFp.base hn06
end Go.Dw
namespace Go.Dw
open Go Go.Dx Go.Proofs
set_option maxRecDepth 100000
set_option maxHeartbeats 16000000 in
theorem ZK7 {tc:List Value}{t:ScT}{v:Int}{l:List ScS}{Q:List (Int×Int)}{al aq:Option Addr}{cl cq:Nat}{h:Heap}(ht:ZBX h tc t)(hT:t.Fit)(hv:I64 v)(hl:ZAN 6 ScSR h al l)(hlF:∀s∈l,s.Fit)(hL:Len l)(hQ:ZAN 2 PrR h aq Q)(hLQ:Len Q):Sv Tryz.prog 46 [.agg ⟨tc⟩,i64 v,.slice al l.length cl,.slice aq Q.length cq] h (RetP fun r h'=>r=covV (ZF5 t v l Q)/\Ext h h'):=by
 have ht0:=ht;obtain⟨xl,cxl,at',ct,a1,c1,a2,c2,a3,c3,a4,c4,a5,c5,a6,c6,rfl,-⟩:=ht;refine ZAy fun hw=>?_;refine ZAH Tryz.func46 rfl (by rw[Tryz.ntmps46];rfl) ?_;show Wc Tryz.prog ⟨46,163,none⟩ _ _ _ _ _;refine zy ?_;refine ZAa rfl rfl rfl fun h1 hE1 hW1 hg1 hn1=>?_;generalize h.nx=b1 at *;refine zy ?_;refine ZAS rfl rfl rfl rfl rfl Bod.h rfl rfl (ZEu (ht0.ext hE1) hT) fun h3 hE3=>?_;replace hg1:=hE3.get hg1;have hE:=hE1.trans hE3
 by_cases he:ZCU t=0
 rotate_left
 ·have e:ZB7 t v l Q=ZCU t:=by unfold ZB7 ZA4;rw[if_pos (by rw[if_pos he];exact he),if_pos he]
  have e2:=ZBf (t:=t) (v:=v) (l:=l) (Q:=Q) (by rw[e];exact he);rw[e2,e];clear e e2;generalize ZCU t=er at *;refine zy ?_;refine ZAI rfl rfl rfl rfl (A_ff he (ZAX rfl rfl)) ?_;refine zy ?_;refine ZAI rfl rfl rfl rfl (A_ff he (ZAX rfl rfl)) ?_;refine zy ?_;refine ZAI rfl rfl rfl rfl (A_ff he (ZAX rfl rfl)) ?_;refine zy ?_
  refine Wc.mono (Q:=fun z m' ds' h'=>z=.exit 0/\ds'=[]/\h3=h'/\AllK m' [(11,i64 er)])
   (ZAT (fun (_:Unit) m ds h'=>ds=[]/\h3=h'/\AllK m [(3,.slice aq Q.length cq),(11,i64 er),(12,i64 0)]) (fun _=>0) () ?_ ?_) ?_
  ·exact⟨rfl,rfl,rfl,rfl,rfl,trivial⟩
  ·rintro _ m ds _ ⟨rfl,rfl,hall⟩
   refine Wc.le ?_ (Le.kn hall);refine zy ?_;refine ZAE rfl rfl rfl rfl (ZAW rfl rfl) (fun hq1=>?_) (fun hq1=>?_)
   ·refine zy ?_
    refine ZAI rfl rfl rfl rfl (A_ff he (ZAX rfl rfl)) ?_;refine zy ?_;exact⟨rfl,rfl,rfl,rfl,trivial⟩
   ·refine zy ?_
    exact⟨rfl,rfl,rfl,rfl,trivial⟩
  rintro _ m' ds' _ ⟨rfl,rfl,rfl,hall⟩
  show Wc _ _ _ _ _ _ _
  refine Wc.le ?_ (Le.kn hall);refine zy ?_;refine ZAI rfl rfl rfl rfl (A_tt (show ¬er=0 from he) (ZAb rfl rfl)) ?_;refine zy ?_;exact ZAC (ZAD rfl ⟨rfl,hE⟩)
 have hO:=ZOM he;have hvl:t.venues.length<1000000:=Nat.lt_of_le_of_lt hO.venues1.2 (by decide);rw[he];clear hE1 hW1 hn1;refine zy ?_;refine ZAI rfl rfl rfl rfl (A_tt rfl (ZAX rfl rfl)) ?_;refine zy ?_;refine ZAP rfl rfl rfl rfl rfl Bod.h rfl rfl (ZBb _ _ _ _) (fun h4=>?_) (fun h4=>?_);rotate_left
 ·replace h4:=of_decide_eq_false h4
  have e0:ZA4 t v l=4:=by unfold ZA4;rw[if_neg (fun q=>q he),if_pos (by omega)]
  have e:ZB7 t v l Q=4:=by unfold ZB7;rw[if_pos (by rw[e0];decide),e0]
  rw[ZBf (by rw[e];decide),e];refine zy ?_;refine ZAI rfl rfl rfl rfl (A_ff (by decide) (ZAX rfl rfl)) ?_;refine zy ?_;refine ZAI rfl rfl rfl rfl (A_ff (by decide) (ZAX rfl rfl)) ?_;refine zy ?_
  refine Wc.mono (Q:=fun z m' ds' h'=>z=.exit 0/\ds'=[]/\h3=h'/\AllK m' [(11,i64 4)])
   (ZAT (fun (_:Unit) m ds h'=>ds=[]/\h3=h'/\AllK m [(3,.slice aq Q.length cq),(11,i64 4),(12,i64 0)]) (fun _=>0) () ?_ ?_) ?_
  ·exact⟨rfl,rfl,rfl,rfl,rfl,trivial⟩
  ·rintro _ m ds _ ⟨rfl,rfl,hall⟩
   refine Wc.le ?_ (Le.kn hall);refine zy ?_;refine ZAE rfl rfl rfl rfl (ZAW rfl rfl) (fun hq1=>?_) (fun hq1=>?_)
   ·refine zy ?_
    refine ZAI rfl rfl rfl rfl (A_ff (by decide) (ZAX rfl rfl)) ?_;refine zy ?_;exact⟨rfl,rfl,rfl,rfl,trivial⟩
   ·refine zy ?_
    exact⟨rfl,rfl,rfl,rfl,trivial⟩
  rintro _ m' ds' _ ⟨rfl,rfl,rfl,hall⟩
  show Wc _ _ _ _ _ _ _
  refine Wc.le ?_ (Le.kn hall);refine zy ?_;refine ZAI rfl rfl rfl rfl (A_tt (show ¬(4:Int)=0 by decide) (ZAb rfl rfl)) ?_;refine zy ?_;exact ZAC (ZAD rfl ⟨rfl,hE⟩)
 replace h4:=of_decide_eq_true h4;have e0:ZA4 t v l=ZBT t l:=by unfold ZA4;rw[if_neg (fun q=>q he),if_neg (by omega)]
 have eL:=ZHZ (l:=l) he;refine zy ?_;refine ZAI rfl rfl rfl rfl (A_tt rfl (ZAX rfl rfl)) ?_;clear h4;refine zy ?_;refine ZAS rfl rfl rfl rfl rfl Bod.h rfl rfl (ZF3 (ht0.ext hE) hT (ZAN.ext (R:=ScSR) (fun x _=>x) hl hE) hlF hL) fun h5 hE5=>?_;replace hg1:=hE5.get hg1;replace hE:=hE.trans hE5;clear hE5 hE3;clear h3;generalize hh:h5=h3 at *;clear hh;rw[eL]
 by_cases he2:ZBT t l=0
 rotate_left
 ·have e:ZB7 t v l Q=ZBT t l:=by unfold ZB7;rw[if_pos (by rw[e0];exact he2),e0]
  rw[ZBf (by rw[e];exact he2),e];refine zy ?_;refine ZAI rfl rfl rfl rfl (A_ff he2 (ZAX rfl rfl)) ?_;refine zy ?_
  refine Wc.mono (Q:=fun z m' ds' h'=>z=.exit 0/\ds'=[]/\h3=h'/\AllK m' [(11,i64 (ZBT t l))])
   (ZAT (fun (_:Unit) m ds h'=>ds=[]/\h3=h'/\AllK m [(3,.slice aq Q.length cq),(11,i64 (ZBT t l)),(12,i64 0)]) (fun _=>0) () ?_ ?_) ?_
  ·exact⟨rfl,rfl,rfl,rfl,rfl,trivial⟩
  ·rintro _ m ds _ ⟨rfl,rfl,hall⟩
   refine Wc.le ?_ (Le.kn hall);refine zy ?_;refine ZAE rfl rfl rfl rfl (ZAW rfl rfl) (fun hq1=>?_) (fun hq1=>?_)
   ·refine zy ?_
    refine ZAI rfl rfl rfl rfl (A_ff he2 (ZAX rfl rfl)) ?_;refine zy ?_;exact⟨rfl,rfl,rfl,rfl,trivial⟩
   ·refine zy ?_
    exact⟨rfl,rfl,rfl,rfl,trivial⟩
  rintro _ m' ds' _ ⟨rfl,rfl,rfl,hall⟩
  show Wc _ _ _ _ _ _ _
  refine Wc.le ?_ (Le.kn hall);refine zy ?_;refine ZAI rfl rfl rfl rfl (A_tt (show ¬ZBT t l=0 from he2) (ZAb rfl rfl)) ?_;refine zy ?_;exact ZAC (ZAD rfl ⟨rfl,hE⟩)
 rw[he2];obtain⟨hl40,hsh⟩:=ZHC he2;have hEz:ZB7 t v l Q=if 80<Q.length then 3 else prGo (-1) Q:=by unfold ZB7;rw[if_neg (by rw[e0];exact fun q=>q he2)]
 refine zy ?_;refine ZAI rfl rfl rfl rfl (A_tt rfl (ZAX rfl rfl)) ?_;refine zy ?_;refine ZAE rfl rfl rfl rfl (ZB0 rfl rfl) (fun h4=>?_) (fun h4=>?_)
 ·rw[if_pos (by omega)] at hEz
  rw[ZBf (by rw[hEz];decide),hEz];refine zy ?_
  refine Wc.mono (Q:=fun z m' ds' h'=>z=.exit 0/\ds'=[]/\h3=h'/\AllK m' [(11,i64 3)])
   (ZAT (fun (_:Unit) m ds h'=>ds=[]/\h3=h'/\AllK m [(3,.slice aq Q.length cq),(11,i64 3),(12,i64 0)]) (fun _=>0) () ?_ ?_) ?_
  ·exact⟨rfl,rfl,rfl,rfl,rfl,trivial⟩
  ·rintro _ m ds _ ⟨rfl,rfl,hall⟩
   refine Wc.le ?_ (Le.kn hall);refine zy ?_;refine ZAE rfl rfl rfl rfl (ZAW rfl rfl) (fun hq1=>?_) (fun hq1=>?_)
   ·refine zy ?_
    refine ZAI rfl rfl rfl rfl (A_ff (by decide) (ZAX rfl rfl)) ?_;refine zy ?_;exact⟨rfl,rfl,rfl,rfl,trivial⟩
   ·refine zy ?_
    exact⟨rfl,rfl,rfl,rfl,trivial⟩
  rintro _ m' ds' _ ⟨rfl,rfl,rfl,hall⟩
  show Wc _ _ _ _ _ _ _
  refine Wc.le ?_ (Le.kn hall);refine zy ?_;refine ZAI rfl rfl rfl rfl (A_tt (show ¬(3:Int)=0 by decide) (ZAb rfl rfl)) ?_;refine zy ?_;exact ZAC (ZAD rfl ⟨rfl,hE⟩)
 rw[if_neg (by omega)] at hEz;have hQl:Q.length<=80:=by omega
 clear h4;replace hQ:=ZAN.ext (R:=PrR) (fun x _=>x) hQ hE;replace hl:=ZAN.ext (R:=ScSR) (fun x _=>x) hl hE;refine zy ?_
 refine Wc.mono (Q:=fun z m' ds' h'=>z=.exit 0/\ds'=[]/\h3=h'/\AllK m' [(1,i64 v),(2,.slice al l.length cl),(3,.slice aq Q.length cq),(4,.pointer (some ⟨b1,0,none⟩)),(11,i64 (prGo (-1) Q))])
  (ZAT (fun (s:Nat×Int×Int) m ds h'=>ds=[]/\s.1<=Q.length/\h3=h'/\((s.2.2=0/\prGo (-1) Q=prGo s.2.1 (Q.drop s.1)/\(s.1=0->s.2.1 = -1)/\(∀(_:0<s.1) (h2:s.1-1<Q.length),s.2.1=Q[s.1-1].1))\/(s.2.2≠0/\prGo (-1) Q=s.2.2)) ∧
   AllK m [(1,i64 v),(2,.slice al l.length cl),(3,.slice aq Q.length cq),(4,.pointer (some ⟨b1,0,none⟩)),(11,i64 s.2.2),(12,i64 s.1)]) (fun s=>Q.length-s.1) (0,-1,0) ?_ ?_) ?_
 ·exact⟨rfl,Nat.zero_le _,rfl,.inl ⟨rfl,rfl,fun _=>rfl,fun h _=>absurd h (Nat.lt_irrefl _)⟩,rfl,rfl,rfl,rfl,rfl,rfl,trivial⟩
 ·rintro⟨k,bef,e⟩ m ds _ ⟨rfl,hk,rfl,hinv,hall⟩
  simp only at hk hinv hall;refine Wc.le ?_ (Le.kn hall);clear hall;refine zy ?_;refine ZAE rfl rfl rfl rfl (ZAW rfl rfl) (fun hkl=>?_) (fun hkl=>?_);rotate_left
  ·have:k=Q.length:=by omega
   subst this;rw[List.drop_length] at hinv;have e1:e=prGo (-1) Q:=by
    rcases hinv with ⟨q1,q2,-⟩|⟨-,q2⟩
    ·rw[q2,q1];rfl
    ·exact q2.symm
   rw[<-e1];refine zy ?_;exact⟨rfl,rfl,rfl,rfl,rfl,rfl,rfl,rfl,trivial⟩
  have hk':k<Q.length:=by omega
  rcases hinv with ⟨rfl,hgo,hb0,hb1⟩|⟨e1,e2⟩
  rotate_left
  ·rw[e2]
   refine zy ?_;refine ZAI rfl rfl rfl rfl (A_ff e1 (ZAX rfl rfl)) ?_;refine zy ?_;exact⟨rfl,rfl,rfl,rfl,rfl,rfl,rfl,rfl,trivial⟩
  have hdr:=ZJO (bef:=bef) hk';obtain⟨bq,oq,oaq,rfl,rowq,hrowq,hrq⟩:=hQ k hk'
  have hprev:0<k->∃row2,ZB5 h3 bq (oq+(k-1)*2) 2=some row2/\row2=[i64 bef,i64 (Q.getD (k-1) (0,0)).2]:=fun h0=>by
   obtain⟨b2,o2,oa2,e2,row2,hrow2,hr2⟩:=hQ (k-1) (by omega);cases e2;refine⟨row2,hrow2,?_⟩;rw[hr2,hb1 h0 (by omega),List.getD_eq_getElem?_getD,List.getElem?_eq_getElem (show k-1<Q.length by omega)]
   rfl
  have hqk:∀(q:Int×Int),q=Q[k]->∀(_:0<k+1) (h2:k+1-1<Q.length),q.1=Q[k+1-1].1:=fun q e _ _=>by rw[e];rfl
  generalize hqq:Q[k]=q at *;replace hqk:=hqk q rfl;obtain rfl:=hrq;refine zy ?_;refine ZAI rfl rfl rfl rfl (A_tt rfl (ZAX rfl rfl)) ?_;refine zy ?_;have cq0:=ZAR (k:=0) hrowq rfl;have cq1:=ZAR (k:=1) hrowq rfl;rw[Nat.add_zero] at cq0;refine ZAI rfl rfl rfl rfl (A_ix Und.h Tsz.h rfl rfl) ?_;refine zy ?_;refine ZAP rfl rfl rfl rfl rfl Bod.h rfl rfl (ZBb _ _ _ _) (fun c1=>?_) (fun c1=>?_);rotate_left
  ·replace c1:=of_decide_eq_false c1
   rw[if_pos (.inl (by omega))] at hdr;refine zy ?_;exact⟨(k+1,bef,7),(by show Q.length-(k+1)<Q.length-k;omega),rfl,hk',rfl,.inr ⟨by first|(show (7:Int)≠0;decide)|(show (2:Int)≠0;decide),by rw[hgo,hdr]⟩,rfl,rfl,rfl,rfl,rfl,rfl,trivial⟩
  replace c1:=of_decide_eq_true c1;refine zy ?_;refine ZAI rfl rfl rfl rfl (A_ix Und.h Tsz.h rfl rfl) ?_;refine zy ?_;refine ZAP rfl rfl rfl rfl rfl Bod.h rfl rfl (ZBb _ _ _ _) (fun c2=>?_) (fun c2=>?_);rotate_left
  ·replace c2:=of_decide_eq_false c2
   rw[if_pos (.inr (by omega))] at hdr;refine zy ?_;exact⟨(k+1,bef,7),(by show Q.length-(k+1)<Q.length-k;omega),rfl,hk',rfl,.inr ⟨by first|(show (7:Int)≠0;decide)|(show (2:Int)≠0;decide),by rw[hgo,hdr]⟩,rfl,rfl,rfl,rfl,rfl,rfl,trivial⟩
  replace c2:=of_decide_eq_true c2;rw[if_neg (by omega)] at hdr;refine zy ?_
  rcases Nat.eq_zero_or_pos k with h0|h0
  ·subst h0
   have hb:=hb0 rfl;rw[if_neg (by omega)] at hdr;refine ZAJ hmix [0,1,3,7,7,31,63,127,7,7,519,1799,3847,7943,16383,32767] [0,1,2,3,4,5,6,7,8,9,10,11,12,13,14,15] none [] (by kernel_rfl) (by kernel_rfl) ?_;refine z_m ?_;refine ZAB rfl rfl rfl rfl rfl (fun _=>A_ff (show ¬(0:Int)<((0:Nat):Int) by decide) (ZB0 rfl rfl)) ?_;refine z_m ?_;refine g_m ?_;refine g_m ?_;refine z_o ?_;refine g_f ?_;refine g_l ?_;refine g_m ?_;refine g_m ?_;refine z_o ?_;refine z_o ?_;refine g_f ?_;refine g_l ?_;refine z_o ?_;refine z_p ?_;refine ZAM (ZAA rfl) nb' ?_;refine zy ?_;exact⟨(0+1,q.1,0),(by show Q.length-(0+1)<Q.length-0;omega),rfl,hk',rfl,.inl ⟨rfl,by rw[hgo,hdr],fun h=>absurd h (Nat.succ_ne_zero _),hqk⟩,rfl,rfl,rfl,rfl,rfl,rfl,trivial⟩
  obtain⟨row2,hrow2,rfl⟩:=hprev h0;obtain⟨k,rfl⟩:∃j,k=j+1:=⟨k-1,by omega⟩;rw[show k+1-1=k from rfl] at hrow2;have cp0:=ZAR (k:=0) hrow2 rfl;rw[Nat.add_zero] at cp0
  by_cases c3:q.1<=bef
  ·rw[if_pos c3] at hdr
   refine ZAJ hmix [0,1,3,7,7,31,63,127,7,7,519,1799,3847,7943,16383,32767] [0,1,2,3,4,5,6,7,8,9,10,11,12,13,14,15] none [] (by kernel_rfl) (by kernel_rfl) ?_;refine z_m ?_;refine ZAB rfl rfl rfl rfl rfl (fun _=>A_tt (show (0:Int)<((k+1:Nat):Int) by omega) (ZB0 rfl rfl)) ?_;refine z_m ?_;refine g_m ?_;refine g_m ?_
   first|refine ZAV rfl rfl rfl rfl ?_|refine ZAB rfl rfl rfl rfl rfl (fun _=>A_ix (k:=k+1) Und.h Tsz.h rfl rfl) ?_
   refine g_f ?_;refine g_l ?_;refine g_m ?_;refine g_m ?_
   first|refine ZAV rfl rfl rfl rfl ?_|refine ZAB rfl rfl rfl rfl rfl (fun _=>ZE7 rfl rfl (by omega) (by omega)) ?_
   first|refine ZAV rfl rfl rfl rfl ?_|refine ZAB rfl rfl rfl rfl rfl (fun _=>ZAK (k:=k) Und.h Tsz.h rfl rfl (by omega) (by omega)) ?_
   refine g_f ?_;refine g_l ?_
   first|refine ZAV rfl rfl rfl rfl ?_|refine ZAB rfl rfl rfl rfl rfl (fun _=>A_tt c3 (ZD7 rfl rfl)) ?_
   refine z_p ?_;refine ZAM (ZAA rfl) nb' ?_;refine zy ?_;exact⟨(k+1+1,bef,2),(by show Q.length-(k+1+1)<Q.length-(k+1);omega),rfl,hk',rfl,.inr ⟨by first|(show (7:Int)≠0;decide)|(show (2:Int)≠0;decide),by rw[hgo,hdr]⟩,rfl,rfl,rfl,rfl,rfl,rfl,trivial⟩
  ·rw[if_neg c3] at hdr
   refine ZAJ hmix [0,1,3,7,7,31,63,127,7,7,519,1799,3847,7943,16383,32767] [0,1,2,3,4,5,6,7,8,9,10,11,12,13,14,15] none [] (by kernel_rfl) (by kernel_rfl) ?_;refine z_m ?_;refine ZAB rfl rfl rfl rfl rfl (fun _=>A_tt (show (0:Int)<((k+1:Nat):Int) by omega) (ZB0 rfl rfl)) ?_;refine z_m ?_;refine g_m ?_;refine g_m ?_
   first|refine ZAV rfl rfl rfl rfl ?_|refine ZAB rfl rfl rfl rfl rfl (fun _=>A_ix (k:=k+1) Und.h Tsz.h rfl rfl) ?_
   refine g_f ?_;refine g_l ?_;refine g_m ?_;refine g_m ?_
   first|refine ZAV rfl rfl rfl rfl ?_|refine ZAB rfl rfl rfl rfl rfl (fun _=>ZE7 rfl rfl (by omega) (by omega)) ?_
   first|refine ZAV rfl rfl rfl rfl ?_|refine ZAB rfl rfl rfl rfl rfl (fun _=>ZAK (k:=k) Und.h Tsz.h rfl rfl (by omega) (by omega)) ?_
   refine g_f ?_;refine g_l ?_
   first|refine ZAV rfl rfl rfl rfl ?_|refine ZAB rfl rfl rfl rfl rfl (fun _=>A_ff c3 (ZD7 rfl rfl)) ?_
   refine z_p ?_;refine ZAM (ZAA rfl) nb' ?_;refine zy ?_;exact⟨(k+1+1,q.1,0),(by show Q.length-(k+1+1)<Q.length-(k+1);omega),rfl,hk',rfl,.inl ⟨rfl,by rw[hgo,hdr],fun h=>absurd h (Nat.succ_ne_zero _),hqk⟩,rfl,rfl,rfl,rfl,rfl,rfl,trivial⟩
 rintro _ m' ds' _ ⟨rfl,rfl,rfl,hall⟩
 show Wc _ _ _ _ _ _ _
 refine Wc.le ?_ (Le.kn hall);clear hall
 by_cases hg0:prGo (-1) Q=0
 rotate_left
 ·rw[ZBf (by rw[hEz];exact hg0),hEz]
  generalize prGo (-1) Q=er at *;refine zy ?_;refine ZAI rfl rfl rfl rfl (A_tt (show ¬er=0 from hg0) (ZAb rfl rfl)) ?_;refine zy ?_;exact ZAC (ZAD rfl ⟨rfl,hE⟩)
 have hE0:ZB7 t v l Q=0:=by rw[hEz,hg0]
 have hQr:=ZLO hg0;rw[hg0];refine zy ?_;refine ZAI rfl rfl rfl rfl (A_ff (show ¬¬(0:Int)=0 from fun q=>q rfl) (ZAb rfl rfl)) ?_;refine zy ?_
 refine Wc.mono (Q:=fun z m' ds' h'=>z=.exit 2/\ds'=[]/\h3=h'/\AllK m' [(1,i64 v),(2,.slice al l.length cl),(3,.slice aq Q.length cq),(4,.pointer (some ⟨b1,0,none⟩)),(13,i64 (ZCh Q))])
  (ZAT (fun (k:Nat) m ds h'=>ds=[]/\k<=Q.length/\h3=h'/\AllK m [(1,i64 v),(2,.slice al l.length cl),(3,.slice aq Q.length cq),(4,.pointer (some ⟨b1,0,none⟩)),(13,i64 (ZCh (Q.take k))),(14,i64 k)]) (fun k=>Q.length-k) 0 ?_ ?_) ?_
 ·exact⟨rfl,Nat.zero_le _,rfl,rfl,rfl,rfl,rfl,rfl,rfl,trivial⟩
 ·rintro k m ds _ ⟨rfl,hk,rfl,hall⟩
  refine Wc.le ?_ (Le.kn hall);clear hall;refine zy ?_;refine ZAE rfl rfl rfl rfl (ZAW rfl rfl) (fun hkl=>?_) (fun hkl=>?_);rotate_left
  ·have:k=Q.length:=by omega
   subst this;rw[List.take_length];refine zy ?_;exact⟨rfl,rfl,rfl,rfl,rfl,rfl,rfl,rfl,trivial⟩
  have hk':k<Q.length:=by omega
  have htt:=ZGm hk';have htr:=ZJ8 (Q:=Q.take k) fun q hq=>(hQr q (List.mem_of_mem_take hq)).2;rw[List.length_take] at htr;have hqr:=hQr _ (List.getElem_mem hk');obtain⟨bq,oq,oaq,rfl,rowq,hrowq,hrq⟩:=hQ k hk';generalize Q[k]=q at *;obtain rfl:=hrq;generalize ZCh (Q.take k)=tk at *;have cq1:=ZAR (k:=1) hrowq rfl;refine zy ?_;refine ZAI rfl rfl rfl rfl (A_ix Und.h Tsz.h rfl rfl) ?_;refine zy ?_;exact⟨k+1,(by show Q.length-(k+1)<Q.length-k;omega),rfl,hk',rfl,rfl,rfl,rfl,rfl,(by rw[htt];rfl),rfl,trivial⟩
 rintro _ m' ds' _ ⟨rfl,rfl,rfl,hall⟩
 show Wc _ _ _ _ _ _ _
 refine Wc.le ?_ (Le.kn hall);clear hall;refine zy ?_
 refine ZAT (fun (i:Nat) m ds h'=>ds=[]/\i<=l.length/\Ext h3 h'/\(∀c∈canS t v (l.take i),ZGq t Q c=false) ∧
   AllK m [(1,i64 v),(2,.slice al l.length cl),(3,.slice aq Q.length cq),(4,.pointer (some ⟨b1,0,none⟩)),(13,i64 (ZCh Q)),(15,i64 i)]) (fun i=>l.length-i) 0 ?_ ?_
 ·exact⟨rfl,Nat.zero_le _,Ext.refl _,(fun _ hc=>(List.not_mem_nil hc).elim),rfl,rfl,rfl,rfl,rfl,rfl,trivial⟩
 rintro i m ds h5 ⟨rfl,hi,hE5,hno,hall⟩;refine Wc.le ?_ (Le.kn hall);clear hall;refine zy ?_;refine ZAE rfl rfl rfl rfl (ZAW rfl rfl) (fun hil=>?_) (fun hil=>?_);rotate_left
 ·have:i=l.length:=by omega
  subst this;rw[List.take_length] at hno;rw[ZJ6 hE0 hno];refine zy ?_;exact ZAC (ZAD rfl ⟨rfl,hE.trans hE5⟩)
 have hi':i<l.length:=by omega
 refine zy ?_;have hstep:=ZHe (t:=t) (v:=v) hi';obtain⟨X,hX⟩:=ZMw (t:=t) (v:=v) (l:=l) (i+1);obtain⟨bl,ol,oal,rfl,row1,hrow1,hr1⟩:=hl i hi';have hs0:=hsh _ (List.getElem_mem hi');generalize l[i]=s at *;obtain rfl:=hr1;have hrow5:=hE5.row hrow1;have cv5:=ZAR (k:=0) hrow5 rfl;rw[Nat.add_zero] at cv5;have k1:=hE5.get hg1;have hE05:=hE.trans hE5
 by_cases e1:s.venue=v
 rotate_left
 ·rw[if_neg (fun q=>e1 q.1),List.append_nil] at hstep
  refine ZAJ hmix [0,0,3,7,15,0,63,127,255,255,255,1791,3839,8191,16383,32767] [0,1,2,3,4,5,6,7,8,9,10,11,12] (some 13) [([14,15],none)] (by kernel_rfl) (by kernel_rfl) ?_;refine z_m ?_;refine z_m ?_;refine ZAB rfl rfl rfl rfl rfl (fun _=>A_ix (k:=i) Und.h Tsz.h rfl rfl) ?_;refine z_f ?_;refine z_l ?_;refine z_m ?_;refine ZAB rfl rfl rfl rfl rfl (fun _=>A_tt (show ¬s.venue=v from e1) (ZAb rfl rfl)) ?_;refine z_m ?_;refine g_r ?_;refine g_m ?_;refine g_m ?_;refine z_o ?_;refine g_r ?_;refine ZAF [0,1,2,3,4,5,6,7,8,9,10,11,12] (by kernel_rfl) rfl (ZAA rfl) rfl nb rfl (ZBP rfl ?_);refine z_o ?_;refine z_p ?_
  refine ZAM (ZAA rfl) nb' ?_;refine zy ?_;exact⟨i+1,(by show l.length-(i+1)<l.length-i;omega),rfl,hi',hE5,(by rw[hstep];exact hno),rfl,rfl,rfl,rfl,rfl,rfl,trivial⟩
 have hwh:=ZJy (ht0.ext hE05) hO hs0 (rfl:ScSR h5 _ s)
 by_cases e2:whyS t s=0
 rotate_left
 ·rw[if_neg (fun q=>e2 q.2),List.append_nil] at hstep
  refine ZAJ hmix [0,0,3,7,15,0,63,127,255,255,255,1791,3839,8191,16383,32767] [0,1,2,3,4,5,6,7,8,9,10,11,12] (some 13) [([14,15],none)] (by kernel_rfl) (by kernel_rfl) ?_;refine z_m ?_;refine z_m ?_;refine ZAB rfl rfl rfl rfl rfl (fun _=>A_ix (k:=i) Und.h Tsz.h rfl rfl) ?_;refine z_f ?_;refine z_l ?_;refine z_m ?_;refine ZAB rfl rfl rfl rfl rfl (fun _=>A_ff (show ¬¬s.venue=v from fun q=>q e1) (ZAb rfl rfl)) ?_;refine z_m ?_;refine g_r ?_;refine g_m ?_;refine g_m ?_
  first|refine ZAV rfl rfl rfl rfl ?_|refine ZAB rfl rfl rfl rfl rfl (fun _=>A_ix (k:=i) Und.h Tsz.h rfl rfl) ?_
  refine g_r ?_;refine ZAF [0,1,2,3,4,5,6,7,8,9,10,11,12] (by kernel_rfl) rfl (ZAA rfl) rfl nb rfl (ZAZ rfl rfl rfl rfl rfl Bod.h hwh (fun h6 hE6=>?_));have k16:=hE6.get k1;have hrow6:=hE6.row hrow5;have cv6:=hE6.cell cv5
  first|refine ZAV rfl rfl rfl rfl ?_|refine ZAB rfl rfl rfl rfl rfl (fun _=>A_tt (show ¬whyS t s=0 from e2) (ZAb rfl rfl)) ?_
  refine z_p ?_;refine ZAM (ZAA rfl) nb' ?_;refine zy ?_;exact⟨i+1,(by show l.length-(i+1)<l.length-i;omega),rfl,hi',hE5.trans hE6,(by rw[hstep];exact hno),rfl,rfl,rfl,rfl,rfl,rfl,trivial⟩
 rw[if_pos ⟨e1,e2⟩] at hstep;refine ZAJ hmix [0,0,3,7,15,0,63,127,255,255,255,1791,3839,8191,16383,32767] [0,1,2,3,4,5,6,7,8,9,10,11,12] (some 13) [([14,15],none)] (by kernel_rfl) (by kernel_rfl) ?_;refine z_m ?_;refine z_m ?_;refine ZAB rfl rfl rfl rfl rfl (fun _=>A_ix (k:=i) Und.h Tsz.h rfl rfl) ?_;refine z_f ?_;refine z_l ?_;refine z_m ?_;refine ZAB rfl rfl rfl rfl rfl (fun _=>A_ff (show ¬¬s.venue=v from fun q=>q e1) (ZAb rfl rfl)) ?_;refine z_m ?_;refine g_r ?_;refine g_m ?_;refine g_m ?_
 first|refine ZAV rfl rfl rfl rfl ?_|refine ZAB rfl rfl rfl rfl rfl (fun _=>A_ix (k:=i) Und.h Tsz.h rfl rfl) ?_
 refine g_r ?_;refine ZAF [0,1,2,3,4,5,6,7,8,9,10,11,12] (by kernel_rfl) rfl (ZAA rfl) rfl nb rfl (ZAZ rfl rfl rfl rfl rfl Bod.h hwh (fun h6 hE6=>?_));have k16:=hE6.get k1;have hrow6:=hE6.row hrow5;have cv6:=hE6.cell cv5
 first|refine ZAV rfl rfl rfl rfl ?_|refine ZAB rfl rfl rfl rfl rfl (fun _=>A_ff (show ¬¬whyS t s=0 from fun q=>q e2) (ZAb rfl rfl)) ?_
 refine z_p ?_;refine ZAM (ZAA rfl) nb' ?_;obtain⟨o1,o2,o3,o4,o5⟩:=ZEQ hO hs0;obtain⟨-,-,-,-,w1,w2⟩:=ZAo hs0;have hE36:=hE5.trans hE6;clear k1 k16 cv5 cv6 hrow5 hrow6 hE5 hE6 hE05 hwh;clear h5;refine zy ?_
 refine Wc.mono (Q:=fun z m' ds' h'=>z=.exit 6/\ds'=[]/\Ext h3 h'/\AllK m' [(1,i64 v),(2,.slice (some ⟨bl,ol,oal⟩) l.length cl),(3,.slice aq Q.length cq),(4,.pointer (some ⟨b1,0,none⟩)),(13,i64 (ZCh Q)),(15,i64 i),(16,i64 (ZBt Q (ivS t s)))])
  (ZAT (fun (k:Nat) m ds h'=>ds=[]/\k<=Q.length/\Ext h3 h'/\AllK m [(1,i64 v),(2,.slice (some ⟨bl,ol,oal⟩) l.length cl),(3,.slice aq Q.length cq),(4,.pointer (some ⟨b1,0,none⟩)),(13,i64 (ZCh Q)),(15,i64 i),(16,i64 (ZBt (Q.take k) (ivS t s))),(17,i64 k)]) (fun k=>Q.length-k) 0 ?_ ?_) ?_
 ·exact⟨rfl,Nat.zero_le _,hE36,rfl,rfl,rfl,rfl,rfl,rfl,rfl,rfl,trivial⟩
 ·clear hE36
  clear h6;rintro k m ds h6 ⟨rfl,hk,hE6,hall⟩;refine Wc.le ?_ (Le.kn hall);clear hall;refine zy ?_;refine ZAE rfl rfl rfl rfl (ZAW rfl rfl) (fun hkl=>?_) (fun hkl=>?_);rotate_left
  ·have:k=Q.length:=by omega
   subst this;rw[List.take_length];refine zy ?_;exact⟨rfl,rfl,hE6,rfl,rfl,rfl,rfl,rfl,rfl,rfl,trivial⟩
  have hk':k<Q.length:=by omega
  refine zy ?_;have hst:ZBt (Q.take (k+1)) (ivS t s)=if s.minute<=Q[k].1/\Q[k].1<=ZA0 t s-1 then ZBt (Q.take k) (ivS t s)+Q[k].2 else ZBt (Q.take k) (ivS t s):=ZHK hk'
  have hcr:=ZKL (Q:=Q.take k) (x:=ivS t s) fun q hq=>(hQr q (List.mem_of_mem_take hq)).2;rw[List.length_take] at hcr;have hqr:=hQr _ (List.getElem_mem hk');obtain⟨bq,oq,oaq,rfl,rowq,hrowq,hrq⟩:=hQ k hk';generalize Q[k]=q at *;obtain rfl:=hrq;have hrowq6:=hE6.row hrowq;have hrow6:=hE6.row hrow1;have k16:=hE6.get hg1;have cq6:=ZAR (k:=0) hrowq6 rfl;rw[Nat.add_zero] at cq6;have cm6:=ZAR (k:=3) hrow6 rfl;have hov:=ZDI (ht0.ext (hE.trans hE6)) hO hs0 (rfl:ScSR h6 _ s);generalize ZBt (Q.take k) (ivS t s)=cu at *
  by_cases hc:s.minute<=q.1/\q.1<=ZA0 t s-1
  ·rw[if_pos hc] at hst
   have hin:=fun h=>ZOu hc (ZBb q.1 s.minute (ZA0 t s-1) h);generalize ZA0 t s=ov at *;refine ZAJ hmix [0,0,3,7,15,0,0,96,224,480,0,0,0,6144,14336,31744,64512,131071] [0,1,2,3,4,5,6,7,8,9,10,11,12,13,14] (some 15) [([16],(some 17)),([],none)] (by kernel_rfl) (by kernel_rfl) ?_;refine z_m ?_;refine z_m ?_;refine ZAB rfl rfl rfl rfl rfl (fun _=>A_ix (k:=k) Und.h Tsz.h rfl rfl) ?_;refine z_f ?_;refine z_l ?_;refine z_m ?_;refine z_m ?_;refine ZAB rfl rfl rfl rfl rfl (fun _=>A_ix (k:=i) Und.h Tsz.h rfl rfl) ?_;refine z_f ?_;refine z_l ?_;refine z_r ?_;refine z_m ?_;refine z_m ?_;refine ZAB rfl rfl rfl rfl rfl (fun _=>A_ix (k:=i) Und.h Tsz.h rfl rfl) ?_;refine z_r ?_
   refine ZAF [10,11,12,13,14] (by kernel_rfl) rfl (ZAA rfl) rfl nb rfl (ZAZ rfl rfl rfl rfl rfl Bod.h hov (fun h7 hE7=>?_));have k17:=hE7.get k16;have hrowq7:=hE7.row hrowq6;have hrow7:=hE7.row hrow6;have cq7:=hE7.cell cq6;have cm7:=hE7.cell cm6;have cp7:=ZAR (k:=1) hrowq7 rfl;refine ZAB rfl rfl rfl rfl rfl (fun _=>ZE7 rfl rfl (by omega) (by omega)) ?_;refine ZAF [0,1,2,3,4,5,6,7,8,9,10,11,12,13,14,15,16] (by kernel_rfl) rfl (by refine t_l 9 ?_;refine t_f 8 ?_;refine ZAY (i:=7) rfl rfl rfl rfl rfl (fun _=>A_ix (k:=i) Und.h Tsz.h rfl rfl) rfl ?_;refine t_m 6 ?_;refine t_m 5 ?_;refine t_l 4 ?_;refine t_f 3 ?_;refine ZAY (i:=2) rfl rfl rfl rfl rfl (fun _=>A_ix (k:=k) Und.h Tsz.h rfl rfl) rfl ?_;refine t_m 1 ?_;refine t_m 0 ?_;exact ZAA rfl) rfl nb rfl (ZAs rfl rfl rfl rfl rfl Bod.h (hin _) ?_)
   refine ZAM (ZAA rfl) nb' ?_;refine zy ?_;refine ZAI rfl rfl rfl rfl (A_ix Und.h Tsz.h rfl rfl) ?_;refine zy ?_;exact⟨k+1,(by show Q.length-(k+1)<Q.length-k;omega),rfl,hk',hE6.trans hE7,rfl,rfl,rfl,rfl,rfl,rfl,(by rw[hst];rfl),rfl,trivial⟩
  ·rw[if_neg hc] at hst
   have hin:=fun h=>ZOp hc (ZBb q.1 s.minute (ZA0 t s-1) h);generalize ZA0 t s=ov at *;refine ZAJ hmix [0,0,3,7,15,0,0,96,224,480,0,0,0,6144,14336,31744,64512,131071] [0,1,2,3,4,5,6,7,8,9,10,11,12,13,14] (some 15) [([16],(some 17)),([],none)] (by kernel_rfl) (by kernel_rfl) ?_;refine z_m ?_;refine z_m ?_;refine ZAB rfl rfl rfl rfl rfl (fun _=>A_ix (k:=k) Und.h Tsz.h rfl rfl) ?_;refine z_f ?_;refine z_l ?_;refine z_m ?_;refine z_m ?_;refine ZAB rfl rfl rfl rfl rfl (fun _=>A_ix (k:=i) Und.h Tsz.h rfl rfl) ?_;refine z_f ?_;refine z_l ?_;refine z_r ?_;refine z_m ?_;refine z_m ?_;refine ZAB rfl rfl rfl rfl rfl (fun _=>A_ix (k:=i) Und.h Tsz.h rfl rfl) ?_;refine z_r ?_
   refine ZAF [10,11,12,13,14] (by kernel_rfl) rfl (ZAA rfl) rfl nb rfl (ZAZ rfl rfl rfl rfl rfl Bod.h hov (fun h7 hE7=>?_));have k17:=hE7.get k16;have hrowq7:=hE7.row hrowq6;have hrow7:=hE7.row hrow6;have cq7:=hE7.cell cq6;have cm7:=hE7.cell cm6;have cp7:=ZAR (k:=1) hrowq7 rfl;refine ZAB rfl rfl rfl rfl rfl (fun _=>ZE7 rfl rfl (by omega) (by omega)) ?_;refine ZAF [0,1,2,3,4,5,6,7,8,9,10,11,12,13,14,15,16] (by kernel_rfl) rfl (by refine t_l 9 ?_;refine t_f 8 ?_;refine ZAY (i:=7) rfl rfl rfl rfl rfl (fun _=>A_ix (k:=i) Und.h Tsz.h rfl rfl) rfl ?_;refine t_m 6 ?_;refine t_m 5 ?_;refine t_l 4 ?_;refine t_f 3 ?_;refine ZAY (i:=2) rfl rfl rfl rfl rfl (fun _=>A_ix (k:=k) Und.h Tsz.h rfl rfl) rfl ?_;refine t_m 1 ?_;refine t_m 0 ?_;exact ZAA rfl) rfl nb rfl (ZAs rfl rfl rfl rfl rfl Bod.h (hin _) ?_)
   refine ZAM (ZAA rfl) nb' ?_;refine zy ?_;exact⟨k+1,(by show Q.length-(k+1)<Q.length-k;omega),rfl,hk',hE6.trans hE7,rfl,rfl,rfl,rfl,rfl,rfl,(by rw[hst];rfl),rfl,trivial⟩
 clear hE36;rintro _ m' ds' h7 ⟨rfl,rfl,hE7,hall⟩
 show Wc _ _ _ _ _ _ _
 refine Wc.le ?_ (Le.kn hall);clear hall;clear h6;have hrow7:=hE7.row hrow1;have cw7:=ZAR (k:=5) hrow7 rfl;have hfd:ZGq t Q (s,i)=decide (ZBt Q (ivS t s)<s.worth):=rfl;refine zy ?_;refine ZAI rfl rfl rfl rfl (A_ix Und.h Tsz.h rfl rfl) ?_;refine zy ?_;refine ZAE rfl rfl rfl rfl (ZAW rfl rfl) (fun hf=>?_) (fun hf=>?_)
 ·rw[ZKP hE0 (c:=(s,i)) (by rw[hX,hstep];exact ZMi hno (by rw[hfd];exact decide_eq_true hf))]
  refine zy ?_;exact ZAC (ZAD rfl ⟨rfl,hE.trans hE7⟩)
 ·refine zy ?_
  refine⟨i+1,(by show l.length-(i+1)<l.length-i;omega),rfl,hi',hE7,fun c hc=>?_,rfl,rfl,rfl,rfl,rfl,rfl,trivial⟩;rw[hstep] at hc
  rcases List.mem_append.1 hc with g|g
  ·exact hno c g
  ·rw[List.mem_singleton.1 g,hfd];exact decide_eq_false hf
theorem ZOB {x y:Operand}(a b:Int×Int)(W:World):(do eqGuard .neq 110 x y (.agg ⟨ZDA a⟩) (.agg ⟨ZDA b⟩);binOp .neq 110 (.agg ⟨ZDA a⟩) (.agg ⟨ZDA b⟩):Sem Value).run Tryz.prog W=.ok (.bool (decide (¬a=b))) W:=by
 simp only[Sem.run_bind];rw[run_eqGuard_agg W _ _ _ _ _ _ (by kernel_rfl)];simp only[Result.andThen_ok];rw[run_neq_struct,run_equalIn_agg W _ _ _ _ (by unfold Program.fieldsOf;rw[Tryz.underlying110]) (by kernel_rfl)];rw[show (Tryz.prog.fieldsOf 110)=_ by unfold Program.fieldsOf;rw[Tryz.underlying110]];simp only;rw[ZNg (a:=a.1) (b:=b.1) (by decide) rfl rfl rfl,ZNg (a:=a.2) (b:=b.2) (by decide) rfl rfl rfl];have hnil:(Op.eqFields 9999 (⟨ZDA a⟩:Array Value) ⟨ZDA b⟩ []).run Tryz.prog W=.ok true W:=rfl;rw[hnil]
 by_cases e1:a.1=b.1
 ·by_cases e2:a.2=b.2
  ·rw[if_pos e1,if_pos e2]
   obtain rfl:a=b:=Prod.ext e1 e2;simp
  ·rw[if_pos e1,if_neg e2,decide_eq_true (show ¬a=b from fun e=>e2 (by rw[e]))];rfl
 ·rw[if_neg e1,decide_eq_true (show ¬a=b from fun e=>e1 (by rw[e]))];rfl
theorem ZRX {m:Mem}{h:Heap}{d:Option Tmp}{ty:TypeId}{pos:String}{af:Array Edge}{gu:Option (Nat×Bool)}{tz:TypeId}{x y:Operand}{a b:Int×Int}(hx:opk h m x=some (.agg ⟨ZDA a⟩))(hy:opk h m y=some (.agg ⟨ZDA b⟩)):Aop Tryz.prog ⟨d,.binOp .neq 110 x y tz,ty,pos,af,gu⟩ m h (.bool (decide (¬a=b))) h :=
 ZEf hx hy rfl rfl rfl (ZOB a b)
theorem ZGB {a b:Option Addr}{ca cb:Nat}{l:List (Int×Int)}{h:Heap}(hl:ZAN 2 PrR h a l)(hl':ZAN 2 PrR h b l)(hn:Len l):Sv Tryz.prog 44 [.slice a l.length ca,.slice b l.length cb] h (RetP fun v h'=>v=.bool true/\h'=h):=by
 refine ZAH Tryz.func44 rfl (by rw[Tryz.ntmps44];rfl) ?_;show Wc Tryz.prog ⟨44,26,none⟩ _ _ _ _ _;refine zy ?_;refine ZAI rfl rfl rfl rfl (A_ff (show ¬¬(l.length:Int)=l.length from fun q=>q rfl) (ZAb rfl rfl)) ?_;refine zy ?_;refine ZAT (fun (k:Nat) m ds h'=>ds=[]/\h=h'/\k<=l.length/\AllK m [(0,.slice a l.length ca),(1,.slice b l.length cb),(5,i64 k)]) (fun k=>l.length-k) 0 ?_ ?_
 ·exact⟨rfl,rfl,Nat.zero_le _,rfl,rfl,rfl,trivial⟩
 rintro k m ds h' ⟨rfl,rfl,hk,hall⟩;refine Wc.le ?_ (Le.kn hall);clear hall;refine zy ?_;refine ZAE rfl rfl rfl rfl (ZAW rfl rfl) (fun h3=>?_) (fun h3=>?_)
 ·have hk':k<l.length:=by omega
  obtain⟨b1,o1,oa1,rfl,r1,hc1,hr1⟩:=hl k hk';obtain⟨b2,o2,oa2,rfl,r2,hc2,hr2⟩:=hl' k hk';generalize l[k]=x at *;obtain rfl:=hr1;obtain rfl:=hr2;refine zy ?_;refine ZAJ hmix [0,0,3,7,0,0,48,112,255] [0,1,2,3,4,5,6,7,8] none [] (by kernel_rfl) (by kernel_rfl) ?_;refine z_m ?_;refine z_m ?_;refine ZAB rfl rfl rfl rfl rfl (fun _=>A_ix (k:=k) Und.h Tsz.h rfl rfl) ?_;refine z_r ?_;refine z_m ?_;refine z_m ?_;refine ZAB rfl rfl rfl rfl rfl (fun _=>A_ix (k:=k) Und.h Tsz.h rfl rfl) ?_;refine z_r ?_;refine ZAB rfl rfl rfl rfl rfl (fun _=>A_ff (show ¬¬x=x from fun q=>q rfl) (ZRX (a:=x) (b:=x) rfl rfl)) ?_
  refine ZAM (ZAA rfl) nb' ?_;refine zy ?_;exact⟨k+1,(by show l.length-(k+1)<l.length-k;omega),rfl,rfl,hk',rfl,rfl,rfl,trivial⟩
 refine zy ?_;exact ZAC (ZAD rfl ⟨rfl,rfl⟩)
theorem ZJx {h0 h:Heap}{v:Value}{P:List (Int×Int)}(hF:ZAG h0 h v 110 2 (P.flatMap ZDA) P.length):∃a c,v=.slice a P.length c/\ZAN 2 PrR h a P:=by
 rcases hF with ⟨rfl,_,h0⟩|⟨b,sp,op,rfl,hg,_⟩
 ·rw[h0]
  exact⟨none,0,rfl,fun i hi=>absurd hi (by omega)⟩
 ·refine⟨some ⟨b,0,sp⟩,P.length,rfl,fun i hi=>⟨b,0,sp,rfl,_,ZAd hg ?_,rfl⟩⟩
  rw[Nat.zero_add];exact ZFD (f:=ZDA) (k:=2) hi fun _ _=>rfl
end Go.Dw
namespace Go.Dw
open Go Go.Dx Go.Proofs
set_option maxRecDepth 100000
structure Cut.Fit (c:Cut):Prop where
 a:I64 c.a
 b:I64 c.b
def ZSm (n:Int)(cs:List Cut)(i:Int):Int×Int:=if (cutS n cs).2≠0 then (0,(cutS n cs).2) else if i<0\/n-1<i then (0,7) else match ZMG cs i with|none=>(0,4)|some m=>(m,0)
end Go.Dw
