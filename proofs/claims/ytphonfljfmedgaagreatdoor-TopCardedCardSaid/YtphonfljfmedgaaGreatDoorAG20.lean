/- UT: contracts: film.lines, film.card, film.Write. -/
import Derived.Test.YtphonfljfmedgaaGreatDoorAG2
import Derived.Test.YtphonfljfmedgaaGreatDoorAUS
import Derived.Test.YtphonfljfmedgaaGreatDoorAG17
import Derived.Test.YtphonfljfmedgaaGreatDoorAG13
set_option linter.unusedVariables false
set_option linter.unusedSimpArgs false
namespace Go.Dw
open Go Go.Dx Go.Proofs
set_option maxRecDepth 100000
abbrev xUT1:List Nat:=[0,1,2,3,4,5,6,7,8,9,10]
abbrev xUT2:List Nat:=[0,1,2,3,4,5,6,7,8,9]
abbrev xUT3:List Nat:=[0,1,2,3,5,6,7,8,9]
abbrev xUT4:List Nat:=[0,1,3,7,15,0,32,96,224,480,1023,2047]
section
variable {h0 h:Heap}{b:Nat}{p v:Value}{I:List It}
theorem ZHr {bs:List UInt8}(hw0:WF h0)(he0:Ext h0 h)(hO:Own h0 h (ceI b [p,v] 128 false::slI h0 v 5 1 (u8s bs) bs.length::I))(hL:bs.length<=1000000000)(hne:0<bs.length\/v=.slice none 0 0) :
  Sv Tryz.prog 51 [.pointer (some ⟨b,0,none⟩)] h (RetP fun r h'=>r=str bs/\Ext h0 h'/\∀c o,ZBi v≠some c->h.get c=some o->h'.get c=some o):=by
 refine ZA0 fun hw=>?_;have hg:h.get b=_:=hO.p1;refine ZAF Tryz.func51 rfl (by rw[Tryz.ntmps51];rfl) ?_;show Wc Tryz.prog ⟨51,14,none⟩ _ _ _ _ _
 rcases (show ZAE _ _ _ _ _ _ _ from hO.p2) with ⟨rfl,hb,hn⟩|⟨b',sp,op,rfl,hgb,hlb,hb0,hsp⟩
 ·obtain rfl:bs=[]:=List.eq_nil_of_length_eq_zero hn
  refine zy ?_;refine ZAR hmix xUT4 xUT3 (some 4) [([],(some 10)),([],(some 11)),([],none)] (by kernel_rfl) (by kernel_rfl) ?_;refine z_m ?_;refine z_q ?_;refine z_f ?_;refine z_l ?_;refine z_m ?_;refine z_q ?_;refine z_f ?_;refine z_l ?_;refine z_c ?_;refine ZAM [0,1,2,3] (by kernel_rfl) rfl (ZAA rfl) rfl nb rfl (ZBm rfl rfl (ZGf rfl rfl rfl rfl rfl) ?_);refine ZAM xUT2 (by kernel_rfl) rfl (by refine t_c 9 ?_;refine t_l 8 ?_;refine t_f 7 ?_;refine t_q 6 ?_;refine t_m 5 ?_;exact ZAA rfl) rfl nb rfl (ZBm rfl rfl (ZHD rfl rfl rfl rfl rfl rfl) ?_);refine ZAM xUT1 (by kernel_rfl) rfl (ZAA rfl) rfl nb rfl (ZBm rfl rfl (ZAY rfl) ?_)
  refine ZAc (ZAA rfl) nb' ?_;refine zy ?_;exact ZAB (ZAC rfl ⟨rfl,he0,fun _ _ _ hg=>hg⟩)
 ·have hn:0<bs.length:=by
   rcases hne with g|g
   ·exact g
   ·cases g
  obtain⟨q,hq⟩:∃q,bs.length=q+1:=⟨bs.length-1,by omega⟩;have hsd:ZDT (.slice (some ⟨b',0,sp⟩) bs.length bs.length)=some (.pointer (some ⟨b',0,none⟩)):=by
   rw[hq]
   rcases hsp with rfl|rfl <;> rfl
  have hst:=ZTw (P:=Tryz.prog) (t:=173) (el:=5) (op:=op) Und.h (by kernel_rfl) (by omega) hn hgb;refine zy ?_;refine ZAR hmix xUT4 xUT3 (some 4) [([],(some 10)),([],(some 11)),([],none)] (by kernel_rfl) (by kernel_rfl) ?_;refine z_m ?_;refine z_q ?_;refine z_f ?_;refine z_l ?_;refine z_m ?_;refine z_q ?_;refine z_f ?_;refine z_l ?_;refine z_c ?_;refine ZAM [0,1,2,3] (by kernel_rfl) rfl (ZAA rfl) rfl nb rfl (ZBm rfl rfl (ZGf rfl rfl rfl rfl hsd) ?_);refine ZAM xUT2 (by kernel_rfl) rfl (by refine t_c 9 ?_;refine t_l 8 ?_;refine t_f 7 ?_;refine t_q 6 ?_;refine t_m 5 ?_;exact ZAA rfl) rfl nb rfl (ZBm rfl rfl (ZHD rfl rfl rfl rfl rfl hst) ?_)
  refine ZAM xUT1 (by kernel_rfl) rfl (ZAA rfl) rfl nb rfl (ZBm rfl rfl (ZAY rfl) ?_);refine ZAc (ZAA rfl) nb' ?_;refine zy ?_
  exact ZAB (ZAC rfl ⟨rfl,he0.delL (rs:=[b']) hw0 (fun x hx=>by rw[List.mem_singleton.1 hx];exact hb0),fun c o hc hg=>by
   have hne:c≠b':=fun e=>hc (by rw[e];rfl)
   show (h.del b').get c=some o
   rw[Heap.get_del_other hne];exact hg⟩)
end
theorem ZPE {row:List Value}{h:Heap}{r:Rl}{am as' al:Option Addr}{cm cs cl:Nat}(e:row=rowR r am cm as' cs al cl):Sv Tryz.prog 49 [.agg ⟨row⟩] h (RetP fun v h'=>∃b,v=.func (.func 78) ⟨[]⟩ ⟨[.pointer (some ⟨b,0,none⟩)]⟩/\Own h h' [ceI b (rowR r am cm as' cs al cl) 28 false]/\Ext h h'):=by
 subst e;refine ZA0 fun hw=>?_;refine ZAF Tryz.func49 rfl (by rw[Tryz.ntmps49];rfl) ?_;show Wc Tryz.prog ⟨49,4,none⟩ _ _ _ _ _;refine zy ?_;refine ZAv rfl rfl rfl fun h1 hE1 hW1 hg1 hn1=>?_;have hO1:=(Own.nil h h).newCe hw (Nat.le_refl _) hE1 hg1 (Nat.le_refl _);refine zy ?_;exact ZAB (ZAC rfl ⟨_,rfl,hO1,hE1⟩)
def nlS (l:List Wd):Wd:=l.flatMap fun x=>x++[10]
theorem ZRF (l:List Wd)(x:Wd):nlS (l++[x])=nlS l++(x++[10]):=by unfold nlS;rw[List.flatMap_append,List.flatMap_singleton]
theorem ZSb (r:Rl):ZGN r=(nlS (ZAu r)++ZBF wEND [((ZAu r).length:Int)])++[10]:=by
 unfold ZGN nlS ZAu;rw[List.flatMap_append,List.flatMap_singleton,List.flatMap_map,List.length_map,List.append_assoc]
 congr 1
 simp[ZCX,endW,ZBX,ZBF]
abbrev bldT:TypeId:=128
noncomputable abbrev cdX (h:Heap)(bB b4 c1:Nat)(rr:List Value)(st:Wd×Nat×Value×Value):List It:=[ceI bB [st.2.2.1,st.2.2.2] bldT false,slI h st.2.2.2 5 1 (u8s st.1) st.1.length,ceI b4 [i64 st.2.1] 3 false,ceI c1 rr 28 false]
set_option maxHeartbeats 4000000 in
theorem ZPo {h:Heap}{r:Rl}{am as' al:Option Addr}{cm cs cl:Nat}(hR:RlAt h am as' al r)(hok:r.Ok)(hL:WkLib h):Sv Tryz.prog 18 [.agg ⟨rowR r am cm as' cs al cl⟩] h (RetP fun v h'=>v=str (ZGN r)/\Ext h h'):=by
 refine ZA0 fun hw=>?_;have hcl:=ZMR hok;have hce:=ZSb r;have hWl:(ZAu r).length<=102:=by
  have h1:=hok.mlen;have h2:=hok.slen;have h3:=hok.llen;unfold ZAu;rw[List.length_map,ZDZ];omega
 have hnl:(nlS (ZAu r)).length+(ZBF wEND [((ZAu r).length:Int)]).length+1<=6000:=by
  rw[hce,List.length_append,List.length_append] at hcl;exact hcl
 refine ZAF Tryz.func18 rfl (by rw[Tryz.ntmps18];rfl) ?_;show Wc Tryz.prog ⟨18,20,none⟩ _ _ _ _ _;refine zy ?_;refine ZAv rfl rfl rfl fun h1 hE1 hW1 hg1 hn1=>?_;refine zy ?_;refine ZAa rfl rfl Zr.h fun h2 hE2 hW2 hg2 hn2=>?_;have hE12:=hE1.trans hE2;have hO2:=(Own.nil h h1).newCe hW1 hE1.2.1 hE2 hg2 (Nat.le_refl _);have k1:=hE2.get hg1;generalize h1.nx=bB at *;refine zy ?_;refine ZAH rfl rfl Zr.h Tsz.h rfl (fun _=>rfl) rfl rfl rfl fun h3 hE3 hW3 hg3 hn3=>?_;have hO3:=hO2.newCe hW2 hE12.2.1 hE3 hg3 (Nat.le_refl _);have k3:=hE3.get k1;replace hE3:=hE12.trans hE3;generalize h2.nx=b4 at *;refine zy ?_
 refine zR (ZPE rfl) ?_;rintro _ h4 ⟨c1,rfl,hO4',hE4⟩;have hO4:=hO3.join hW3 hE3.2.1 hE4 hO4';replace hE4:=hE3.trans hE4;clear hO2 hO3 hO4' hE12 hE2 hE3 k1 k3;have hO5:Own h h4 (cdX h bB b4 c1 (rowR r am cm as' cs al cl) ([],0,.pointer none,.slice none 0 0)):=(hO4.nilSl 5 1).shuf (ceI 0 [] 0 false) [0,1,2,3] [3,0,2,1] (by decide) rfl;clear hO4;refine zy ?_;refine ZNz (q:=5) (X:=cdX h bB b4 c1 (rowR r am cm as' cs al cl)) (ok:=fun pre st=>st.1=nlS pre/\st.2.1=pre.length/\(st.2.2.1=.pointer none\/st.2.2.1=.pointer (some ⟨bB,0,none⟩))) (L:=ZAu r) (enc:=str) (s0:=([],0,.pointer none,.slice none 0 0)) rfl rfl Bod.h rfl hw hE4 hO5 ⟨rfl,rfl,.inl rfl⟩ (ZMz (cm:=cm) (cs:=cs) (cl:=cl) (op:=false) hw hR hok hL fun st=>by simp) (fun l x h'=>?_) (fun l pre x post st h6 R hsp hok' hO6 hE6=>?_) (fun st h6 hok6 hO6 hE6=>?_)
 ·refine zy ?_
  exact⟨rfl,rfl,rfl,rfl⟩
 ·obtain⟨bs,n,p,v⟩:=st
  simp only at hok';obtain⟨rfl,rfl,hp⟩:=hok';have hpl:(nlS pre).length+(x++[10]).length<=6000:=by
   have h1:(nlS (ZAu r)).length=(nlS (pre++x::post)).length:=congrArg (fun l=>(nlS l).length) hsp;unfold nlS at h1 ⊢ hnl;rw[List.flatMap_append,List.flatMap_cons,List.length_append,List.length_append] at h1;omega
  have hpn:pre.length<=102:=by
   have h1:=congrArg List.length hsp;rw[List.length_append] at h1;omega
  have hxl:x.length+1<=6000:=by rw[List.length_append] at hpl;simp at hpl;omega
  refine zy ?_;refine zE (ZBl rfl rfl (show x.length+([10]:Wd).length<_ by simp;omega)) ?_;refine zR (ZHt (bs:=nlS pre) (s:=x++[10]) hw hE6 hO6 hp (by omega)) ?_;rintro _ h7 ⟨rfl,v',hO7,hE7⟩;rw[<-ZRF] at hO7;have g4:h7.get b4=some (.cells [i64 (pre.length:Nat)] 3 false):=hO7.p3;refine zy ?_;refine ZAU (r:=[i64 ((pre.length:Nat)+1)]) hw hE7 rfl Tsz.h rfl rfl hO7.up3 rfl rfl rfl fun h8 hW8 hO8 hE8=>?_;refine zy ?_;refine⟨rfl,(nlS (pre++[x]),(pre++[x]).length,.pointer (some ⟨bB,0,none⟩),v'),⟨rfl,rfl,.inr rfl⟩,?_,hE8⟩;have:=hO8.dn3
  show Own h h8 ([ceI bB [.pointer (some ⟨bB,0,none⟩),v'] bldT false,slI h v' 5 1 (u8s (nlS (pre++[x]))) (nlS (pre++[x])).length,ceI b4 [i64 ((pre++[x]).length:Nat)] 3 false,_]++R)
  rw[show (((pre++[x]).length:Nat):Int)=(pre.length:Nat)+1 by rw[List.length_append];rfl];exact this
 obtain⟨bs,n,p,v⟩:=st;simp only at hok6;obtain⟨rfl,rfl,hp⟩:=hok6;have hO7:Own h h6 (cdX h bB b4 c1 (rowR r am cm as' cs al cl) (nlS (ZAu r),(ZAu r).length,p,v)):=hO6.tail;have hr6:h6.get h4.nx=some .defd:=hO6.p1;have g4:h6.get b4=some (.cells [i64 ((ZAu r).length:Nat)] 3 false):=hO7.p3;have hpos:0<(nlS (ZAu r)).length:=by
  have h2:2<=(ZAu r).length:=by unfold ZAu;rw[List.length_map,ZDZ];omega
  cases hq:ZAu r with
  | nil=>rw[hq] at h2;simp at h2
  | cons x l=>unfold nlS;rw[List.flatMap_cons];simp;omega
 have hb4v:ZBi v≠some b4:=fun e=>by
  have hs:=hO7.shuf (ceI 0 [] 0 false) [0,1,2,3] [1,2,0,3] (by decide) rfl;exact (List.pairwise_cons.1 hs.ap).1 (ceI b4 _ _ _) List.mem_cons_self b4 e rfl
 have hrv:ZBi v≠some h4.nx:=fun e=>by
  have hs:=hO6.shuf (ceI 0 [] 0 false) [0,1,2,3,4] [2,0,1,3,4] (by decide) rfl;exact (List.pairwise_cons.1 hs.ap).1 (loI h4.nx .defd) List.mem_cons_self h4.nx e rfl
 have hje:(ZBF wEND [((ZAu r).length:Int)]).length<=6000:=by omega
 refine ZBg fun hW6=>?_;have hb4l:b4<h6.nx:=hW6 _ _ g4;have hrl:h4.nx<h6.nx:=hW6 _ _ hr6;have hrn:h.nx<=h4.nx:=hO6.lo _ List.mem_cons_self h4.nx rfl;have hO8:=hO7.ext (Ext.rsv h6);have g4r:=(Ext.rsv h6).get g4;refine zy ?_;refine ZAR hmix [0,0,2,7,15,31,63] [1,2] (some 0) [([],(some 3)),([4,5],(some 6)),([],none)] (by kernel_rfl) (by kernel_rfl) ?_;refine z_l ?_;refine ZBS (nk:=.sl _ _) rfl rfl rfl rfl rfl (fun _ _ hs=>N_bs hs Und.h Tsz.h Zr.h rfl rfl rfl rfl rfl) ?_;refine ZAM (h1:=(rsv h6)) [] (by kernel_rfl) rfl (ZAA rfl) rfl rfl rfl (ZAT (ZAg rfl rfl rfl rfl rfl Bod.h (ZHr (p:=p) (v:=v) (bs:=nlS (ZAu r)) hw (hE6.trans (Ext.rsv h6)) hO8 (by omega) (.inl hpos)) (fun v7 h7 hv hw7=>?_)))
 obtain⟨rfl,hE7,hk7⟩:=hv;have q4:=hk7 b4 _ hb4v g4r;have qr:=hk7 h4.nx _ hrv ((Ext.rsv h6).get hr6);have hE8:Ext h (h7.set h6.nx (.cells [i64 (ZAu r).length] 3 false)):=hE7.set hw hE6.2.1 _;have k8:(h7.set h6.nx (.cells [i64 (ZAu r).length] 3 false)).get h6.nx=some (.cells ([((ZAu r).length:Int)].map i64) 3 false):=Heap.get_set_self _ _ _;have q48:(h7.set h6.nx (.cells [i64 (ZAu r).length] 3 false)).get b4=some (.cells [i64 ((ZAu r).length:Nat)] 3 false):=by rw[Heap.get_set_other _ (by omega)];exact q4
 have qr8:(h7.set h6.nx (.cells [i64 (ZAu r).length] 3 false)).get h4.nx=some .defd:=by rw[Heap.get_set_other _ (by omega)];exact qr
 refine ZAM (h1:=(h7.set h6.nx (.cells [i64 (ZAu r).length] 3 false))) [0,1,2] (by kernel_rfl) rfl (by refine ZCf (i:=2) (nk:=.sl _ _) rfl rfl rfl rfl rfl (fun _ _ hs=>N_bs hs Und.h Tsz.h Zr.h rfl rfl rfl rfl rfl) rfl ?_;refine t_l 1 ?_;exact ZAA rfl) rfl rfl rfl (ZCV rfl rfl rfl rfl rfl Bod.h (ZEC (s:=wEND) (l:=[((ZAu r).length:Int)]) (ZCt k8) (ZBv (ZAG (by omega) ZAX)) (by simp) (by decide) (hL.ext hE8)) ?_);refine ZAI rfl rfl rfl rfl rfl (fun _=>ZBl (a:=nlS (ZAu r)) (b:=ZBF wEND [((ZAu r).length:Int)]) rfl rfl (by omega)) ?_;refine ZAI rfl rfl rfl rfl rfl (fun _=>ZBl (a:=nlS (ZAu r)++ZBF wEND [((ZAu r).length:Int)]) (b:=[10]) rfl rfl (by simp only[List.length_append,List.length_cons,List.length_nil];omega)) ?_
 refine ZAM [0,1,2,3,4,5] (by kernel_rfl) rfl (ZAA rfl) rfl nb rfl (ZBm rfl rfl (ZAY rfl) ?_);refine ZAc (ZAA rfl) rfl ?_;refine zy ?_;have hOr:Own h (h7.set h6.nx (.cells [i64 (ZAu r).length] 3 false)) ([h4.nx].map (fun r=>loI r .defd)++[]):=⟨fun x hx=>by rw[List.mem_singleton.1 hx];exact qr8,fun x hx c hc=>by rw[List.mem_singleton.1 hx] at hc;rw[show c=h4.nx from hc];exact hrn,List.pairwise_singleton _ _⟩;have hcl:=hOr.colls;refine ZAB (ZGs hcl.nd hcl.defd rfl ⟨?_,hcl.ext0 hE8 hw⟩);rw[hce];rfl
def ZIP (r:Rl):Wd:=if ZBc r=0 then ZGN r else []
theorem ZQ8 {h:Heap}{r:Rl}{am as' al:Option Addr}{cm cs cl:Nat}(hR:RlAt h am as' al r)(hF:r.Fit)(hL:WkLib h):Sv Tryz.prog 4 [.agg ⟨rowR r am cm as' cs al cl⟩] h (RetP fun v h'=>v=.tuple ⟨[str (ZIP r),i64 (ZBc r)]⟩/\Ext h h'):=by
 refine ZA0 fun hw=>?_;unfold ZIP;refine ZAF Tryz.func4 rfl (by rw[Tryz.ntmps4];rfl) ?_;show Wc Tryz.prog ⟨4,18,none⟩ _ _ _ _ _;refine zy ?_;refine ZAv rfl rfl rfl fun h1 hE1 hW1 hg1 hn1=>?_;refine zy ?_;refine zR (ZHe hF (hR.ext hE1)) ?_;rintro _ h2 ⟨⟨p,a,rfl⟩,hE2⟩;have k1:=hE2.get hg1;have hE12:=hE1.trans hE2;refine zy ?_
 by_cases hz:ZBc r=0
 ·refine zE (A_ff (fun q=>q hz) (ZA3 rfl rfl)) ?_
  rw[if_pos hz,hz];refine zy ?_;refine zW (ZPo (hR.ext hE12) (ZId hz) (hL.ext hE12)) fun h3 hE3=>?_;refine zy ?_;exact ZAB (ZAC rfl ⟨rfl,hE12.trans hE3⟩)
 ·refine zE (A_tt hz (ZA3 rfl rfl)) ?_
  rw[if_neg hz];refine zy ?_;exact ZAB (ZAC rfl ⟨rfl,hE12⟩)
section
variable {P:Program}{m:Mem}{h:Heap}{d:Option Tmp}{ty:TypeId}{pos:String}{af:Array Edge}{gu:Option (Nat×Bool)}
theorem ZKg {t:TypeId} {ms}(hu:P.underlying t=some (.interface ms))(w:World):(binOp .eql t .nilIface .nilIface).run P w=.ok (.bool true) w:=by
 show (do pure (.bool (<-Op.equalIn (9999+1) t .nilIface .nilIface)):Sem Value).run P w=_
 simp only[Sem.run_bind,ZIX hu,Result.andThen_ok,Sem.run_pure]
theorem ZMs {t tz:TypeId} {ms}{x:Operand}(hu:P.underlying t=some (.interface ms))(hx:opk h m x=some .nilIface):Aop P ⟨d,.binOp .eql t x (.const .nilIface) tz,ty,pos,af,gu⟩ m h (.bool true) h :=
 ZCe (a:=.nilIface) (b:=.nilIface) hx rfl rfl rfl rfl fun w=>by
  have:(eqGuard .eql t x (.const .nilIface) .nilIface .nilIface).run P w=.ok () w:=by
   unfold eqGuard;cases x <;> rfl
  simp only[Sem.run_bind,this,Result.andThen_ok,ZKg hu]
end
abbrev ZPO:Value:=.iface 35 (i64 6)
theorem ZTQ (b:Bool)(h:Heap):Sv Tryz.prog 26 [.bool b] h (fun r=>if b=true then r=.ret (.tuple ⟨[]⟩) h else r=.pan ZPO h):=by
 refine ZD5 Tryz.func26 rfl (by rw[Tryz.ntmps26];rfl) ?_
 show Wc Tryz.prog ⟨26,5,none⟩ _ _ _ _ _
 cases b with
 | true =>
  refine zy ?_;exact ZLL rfl rfl
 | false =>
  refine zy ?_;refine zE (ZSm rfl) ?_;refine ZRG rfl rfl ?_;exact ZK2 rfl
theorem ZI1 (h:Heap):Sv Tryz.prog 26 [.bool true] h (RetP fun v h'=>v=.tuple ⟨[]⟩/\h'=h):=by
 refine ZAF Tryz.func26 rfl (by rw[Tryz.ntmps26];rfl) ?_;show Wc Tryz.prog ⟨26,5,none⟩ _ _ _ _ _;refine zy ?_;exact ZC1 rfl ⟨rfl,rfl⟩
abbrev rdT:TypeId:=69
def wo (n k:Nat):Nat:=if k<n then k else n-1
abbrev wsl (bW n k:Nat):Value:=.slice (some ⟨bW,wo n k,none⟩) (n-k) (n-k)
noncomputable abbrev rdX (b bW:Nat)(A:List Wd)(k:Nat):List It:=[ceI b [wsl bW A.length k] rdT false,ceI bW (A.map str) 9 false]
theorem ZTY {n k:Nat}(h:k<n):(if n-k=1 then wo n k else wo n k+1*1)=wo n (k+1):=by
 unfold wo;rw[if_pos h]
 split
 ·rw[if_neg (by omega)];omega
 ·rw[if_pos (by omega)]
theorem ZEK {h0 h:Heap}{b bW k:Nat}{A:List Wd}{I:List It}(hw0:WF h0)(he0:Ext h0 h)(hO:Own h0 h (rdX b bW A k++I))(hk:k<A.length)(hA:A.length<=1000000) :
  Sv Tryz.prog 22 [.pointer (some ⟨b,0,none⟩)] h (RetP fun v h'=>v=str A[k]/\Own h0 h' (rdX b bW A (k+1)++I)/\Ext h0 h'):=by
 have hg:h.get b=some (.cells [wsl bW A.length k] rdT false):=hO.p1;have hgW:h.get bW=some (.cells (A.map str) 9 false):=hO.p2;have hc:ZAi h bW (wo A.length k+0*1)=some (str A[k]):=ZAP hgW (by unfold wo;rw[if_pos hk];simp[ZAq,hk]);refine ZAF Tryz.func22 rfl (by rw[Tryz.ntmps22];rfl) ?_;show Wc Tryz.prog ⟨22,26,none⟩ _ _ _ _ _;refine zy ?_;refine zE (A_tt (show (0:Int)<((A.length-k:Nat):Int) by omega) (ZBw rfl rfl)) ?_;refine zV (ZI1 h) ?_;refine zD (ZAN (k:=0) Und.h Tsz.h rfl rfl rfl (by omega)) ?_;refine zD (ZGu (k:=1) Und.h Tsz.h (by omega) rfl rfl) ?_;refine ZAU (r:=[wsl bW A.length (k+1)]) hw0 he0 rfl Tsz.h rfl rfl hO rfl rfl (by rw[ZTY hk];rfl) fun h2 hW2 hO2 hE2=>?_
 refine zy ?_;exact ZAB (ZAC rfl ⟨rfl,hO2,hE2⟩)
theorem ZQv {h:Heap}{b bW:Nat}{A:List Wd}(hg:h.get b=some (.cells [wsl bW A.length A.length] rdT false)) :
  Sv Tryz.prog 22 [.pointer (some ⟨b,0,none⟩)] h (fun r=>r=.pan ZPO h):=by
 refine ZD5 Tryz.func22 rfl (by rw[Tryz.ntmps22];rfl) ?_
 show Wc Tryz.prog ⟨22,26,none⟩ _ _ _ _ _
 refine zy ?_;refine zE (A_ff (show ¬(0:Int)<((A.length-A.length:Nat):Int) by omega) (ZBw rfl rfl)) ?_;refine ZJG rfl rfl rfl rfl rfl Bod.h rfl rfl (ZTQ false h) (fun v h2 hv=>?_) (fun v h2 hv=>?_)
 ·rw[if_neg (by decide)] at hv;cases hv
 ·rw[if_neg (by decide)] at hv
  cases hv;exact ZK2 rfl
theorem ZFr {h0 h:Heap}{b bW k:Nat}{A:List Wd}{I:List It}{x:Wd}(hw0:WF h0)(he0:Ext h0 h)(hO:Own h0 h (rdX b bW A k++I))(hk:A[k]?=some x)(hA:A.length<=1000000) :
  Sv Tryz.prog 21 [.pointer (some ⟨b,0,none⟩),str x] h (RetP fun v h'=>v=.tuple ⟨[]⟩/\Own h0 h' (rdX b bW A (k+1)++I)/\Ext h0 h'):=by
 obtain⟨hk',rfl⟩:=List.getElem?_eq_some_iff.1 hk;refine ZAF Tryz.func21 rfl (by rw[Tryz.ntmps21];rfl) ?_;show Wc Tryz.prog ⟨21,9,none⟩ _ _ _ _ _;refine zy ?_;refine zR (ZEK hw0 he0 hO hk' hA) ?_;rintro _ h2 ⟨rfl,hO2,hE2⟩;refine zy ?_;refine zE (A_tt rfl (ZBO rfl rfl)) ?_;refine zV (ZI1 h2) ?_;exact ZC1 rfl ⟨rfl,hO2,hE2⟩
theorem ZRf {h:Heap}{b bW:Nat}{A:List Wd}(x:Wd)(hg:h.get b=some (.cells [wsl bW A.length A.length] rdT false)) :
  Sv Tryz.prog 21 [.pointer (some ⟨b,0,none⟩),str x] h (fun r=>r=.pan ZPO h):=by
 refine ZD5 Tryz.func21 rfl (by rw[Tryz.ntmps21];rfl) ?_
 show Wc Tryz.prog ⟨21,9,none⟩ _ _ _ _ _
 refine zy ?_;refine ZJG rfl rfl rfl rfl rfl Bod.h rfl rfl (ZQv hg) (fun v h2 hv=>?_) (fun v h2 hv=>?_)
 ·cases hv
 ·cases hv
  exact ZK2 rfl
theorem ZBT {h0 h:Heap}{b bW k:Nat}{A:List Wd}{I:List It}{x:Int}(hw0:WF h0)(he0:Ext h0 h)(hO:Own h0 h (rdX b bW A k++I))(hk:A[k]?=some (Lib.itoa x))(hA:A.length<=1000000)(hx:0<=x/\x<1000000000)(hL:WkLib h0) :
  Sv Tryz.prog 23 [.pointer (some ⟨b,0,none⟩)] h (RetP fun v h'=>v=i64 x/\Own h0 h' (rdX b bW A (k+1)++I)/\Ext h0 h'):=by
 obtain⟨hk',ek⟩:=List.getElem?_eq_some_iff.1 hk;obtain⟨-,hl,hat⟩:=ZA1 hx.1 hx.2;refine ZAF Tryz.func23 rfl (by rw[Tryz.ntmps23];rfl) ?_;show Wc Tryz.prog ⟨23,19,none⟩ _ _ _ _ _;refine zy ?_;refine zR (ZEK hw0 he0 hO hk' hA) ?_;rintro _ h2 ⟨rfl,hO2,hE2⟩;rw[ek];refine zR (ZTG (s:=Lib.itoa x) (by omega) (hL.ext hE2)) ?_;rintro _ h3 ⟨hE3,⟨n,hn,rfl⟩|⟨hno,-⟩⟩;rotate_left
 ·exact absurd hat (hno x)
 have hnx:n=x:=by rw[hat] at hn;injection hn with e;exact e.symm
 subst hnx;refine zy ?_;refine zD (ZMs Tryz.underlying133 rfl) ?_;refine zD (A_tt hx.1 (ZHO rfl rfl)) ?_;refine zV (ZI1 h3) ?_;exact ZAB (ZAC rfl ⟨rfl,hO2.ext hE3,hE2.trans hE3⟩)
theorem ZQ0 {a:Option Addr}{cap:Nat}{l:List Wd}{x:Wd}{j:Nat}{h:Heap}(hI:ZBf str h a l)(hj:l[j]?=some x)(hno:∀i<j,l[i]?≠some x)(hlen:l.length<=1000):Sv Tryz.prog 25 [.slice a l.length cap,str x] h (RetP fun v h'=>v=i64 (j:Nat)/\h'=h):=by
 obtain⟨hj',ej⟩:=List.getElem?_eq_some_iff.1 hj;refine ZAF Tryz.func25 rfl (by rw[Tryz.ntmps25];rfl) ?_;show Wc Tryz.prog ⟨25,19,none⟩ _ _ _ _ _;refine zy ?_;refine ZAS (fun (k:Nat) m ds h'=>ds=[]/\h=h'/\k<=j/\AllK m [(0,.slice a l.length cap),(1,str x),(7,i64 l.length),(8,i64 (k:Nat))]) (fun k=>j-k) 0 ?_ ?_
 ·exact⟨rfl,rfl,Nat.zero_le _,rfl,rfl,rfl,rfl,trivial⟩
 rintro k m ds h' ⟨rfl,rfl,hk,hall⟩;refine Wc.le ?_ (Le.kn hall);clear hall;have hk':k<l.length:=by omega
 obtain⟨b,o,oa,rfl,hc⟩:=hI k hk';refine zy ?_;refine zD (A_tt (by omega) (ZAx rfl rfl)) ?_;refine zD (A_ix Und.h Tsz.h rfl rfl) ?_
 by_cases hq:x=l[k]
 ·refine zE (A_tt hq (ZBO rfl rfl)) ?_
  have:k=j:=by
   rcases Nat.lt_or_ge k j with g|g
   ·exact absurd (by rw[List.getElem?_eq_getElem hk',hq]) (hno k g)
   ·omega
  subst this;refine zy ?_;exact ZAB (ZAC rfl ⟨rfl,rfl⟩)
 ·refine zE (A_ff hq (ZBO rfl rfl)) ?_
  have:k≠j:=fun e=>hq (by subst e;exact ej.symm);refine zy ?_;exact⟨k+1,(by show j-(k+1)<j-k;omega),rfl,rfl,by omega,rfl,rfl,rfl,rfl,trivial⟩
abbrev rlT:TypeId:=28
abbrev errT:TypeId:=35
abbrev zRow:List Value:=[str [],i64 0,i64 0,i64 0,i64 0,i64 0,i64 0,.slice none 0 0,.slice none 0 0,.slice none 0 0]
theorem ZIV {fn:Func}{m:Mem}{h:Heap}{R:VS->Prop}{p q:Nat}{row:List Value}{vq:Value}{rc:RC}
  (hp:h.get p=some (.cells row rlT false)) (hq:h.get q=some (.cells [vq] errT false)) (hpq:p≠q)
  (hn:rc=.none->LvR Tryz.prog fn m [] .none h R) (hs:rc=.some ZPO->row=zRow/\∀h1,(∀b,b≠p->b≠q->h1.get b=h.get b)->h1.nx=h.nx->h1.gl=h.gl->h1.get p=some (.cells zRow rlT false)->h1.get q=some (.cells [i64 6] errT false)->LvR Tryz.prog fn m [] .none h1 R)
  (hrc:rc=.none\/rc=.some ZPO):LvR Tryz.prog fn m [.fn 19 [] [.pointer (some ⟨p,0,none⟩),.pointer (some ⟨q,0,none⟩)]] rc h R:=by
 refine ZUR Tryz.func19 rfl Bod.h (by rw[Tryz.ntmps19];rfl) ?_
 show Wz Tryz.prog ⟨19,9,none⟩ _ _ _ _ _
 rcases hrc with rfl|rfl
 ·refine ZMo ?_
  refine ZFU ?_;refine ZOQ rfl rfl rfl rfl ?_;refine ZIE rfl rfl (ZAY rfl) ?_;refine ZJA ?_;refine ZMo ?_;refine ZFU ?_;refine ZIE rfl rfl (ZGB rfl) ?_;refine ZIE rfl rfl (ZP3 Tryz.underlying20 rfl) ?_;refine ZJA ?_;refine ZQb rfl ?_;refine ZPX rfl (ZLJ ⟨rfl,.inl rfl,rfl,hn rfl⟩)
 ·obtain⟨rfl,hs'⟩:=hs rfl
  refine ZMo ?_;refine ZFU ?_;refine ZOQ rfl rfl rfl rfl ?_;refine ZIE rfl rfl (ZAY rfl) ?_;refine ZJA ?_;refine ZMo ?_;refine ZFU ?_;refine ZIE rfl rfl (ZGB rfl) ?_;refine ZIE rfl rfl (ZOm Tryz.underlying20 rfl rfl) ?_;refine ZJA ?_;refine ZQF rfl ?_;refine ZPX rfl ?_;refine ZAR hmix [0,0,2,1,15] [0,1,2] (some 3) [([],(some 4)),([],none)] (by kernel_rfl) (by kernel_rfl) ?_;refine z_b ?_;refine z_m ?_;refine z_t ?_;refine ZAM [0] (by kernel_rfl) rfl (ZAA rfl) rfl nb rfl (ZCW rfl rfl Tsz.h rfl rfl hp rfl rfl rfl (fun h1 hU1=>?_));have hq1:=hU1.get (Ne.symm hpq) hq;refine ZAM [0,1,2,3] (by kernel_rfl) rfl (by refine t_t 2 ?_;refine t_m 1 ?_;exact ZAA rfl) rfl nb rfl (ZCW rfl rfl Tsz.h rfl rfl hq1 rfl rfl rfl (fun h2 hU2=>?_))
  refine ZAc (ZAA rfl) nb' ?_;refine⟨rfl,.inl rfl,rfl,hs' h2 (fun b b1 b2=>by rw[hU2.other b b2,hU1.other b b1]) (by rw[hU2.nx,hU1.nx]) (hU2.gl.trans hU1.gl) (hU2.get hpq hU1.at') hU2.at'⟩
set_option maxHeartbeats 1000000 in
theorem ZPP {h:Heap}(hL:WkLib h):Sv Tryz.prog 5 [str []] h (RetP fun v h'=>v=.tuple ⟨[.agg ⟨zRow⟩,i64 6]⟩/\Ext h h'):=by
 refine ZA0 fun hw=>?_;have hfs:=fun {h'} (hL':WkLib h')=>ZKI (s:=[]) (h:=h') (by decide) (fun b hb=>nomatch hb) hL';refine ZD5 Tryz.func5 rfl (by rw[Tryz.ntmps5];rfl) ?_
 show Wc Tryz.prog ⟨5,121,none⟩ _ _ _ _ _
 refine zy ?_;refine ZAa rfl rfl Zr.h fun h1 hE1 hW1 hg1 hn1=>?_;refine ZAa rfl rfl Zr.h fun h2 hE2 hW2 hg2 hn2=>?_;have k1:=hE2.get hg1;have hE12:=hE1.trans hE2;have hne:h.nx≠h1.nx:=by omega
 have hl1:h.nx<=h1.nx:=hE1.2.1;generalize h1.nx=b3 at *;generalize hb2:h.nx=b2 at *;refine zy ?_;refine zD (A_ff (show ¬(6000:Int)<(([]:Wd).length:Nat) by simp) (ZBw rfl rfl)) ?_;refine ZMi rfl rfl rfl rfl rfl Bod.h ?_;refine zy ?_;refine zR (hfs (hL.ext hE12)) ?_;rintro _ h3 ⟨bW,rfl,-,hE3⟩;have k3:=hE3.get k1;have q3:=hE3.get hg2;have hE13:=hE12.trans hE3;refine ZA4 fun hW3=>?_;refine zy ?_;refine ZAv rfl rfl rfl fun h4 hE4 hW4 hg4 hn4=>?_;have k4:=hE4.get k3;have q4:=hE4.get q3;have hE14:=hE13.trans hE4;refine zy ?_;refine ZJG rfl rfl rfl rfl rfl Bod.h rfl rfl (ZRf (A:=[]) [82,69,69,76] hg4) (fun v h5 hv=>?_) (fun v h5 hv=>?_)
 ·cases hv
 ·cases hv
  refine ZIV k4 q4 hne (fun e=>nomatch e) (fun _=>⟨rfl,fun h6 c1 c2 c3 c4 c5=>?_⟩) (.inr rfl);refine ZLL (vs:=[.agg ⟨zRow⟩,i64 6]) (ZAW rfl (ZAt RowC.h (ZAL c4 rfl)) (ZAW rfl (ZCM OneC.h (ZAP c5 rfl)) rfl)) ⟨rfl,?_⟩;refine⟨fun b o hg=>?_,by rw[c2];exact hE14.2.1,c3.trans hE14.2.2⟩;have:=hw b o hg;rw[c1 b (by omega) (by omega)];exact hE14.get hg
end Go.Dw
