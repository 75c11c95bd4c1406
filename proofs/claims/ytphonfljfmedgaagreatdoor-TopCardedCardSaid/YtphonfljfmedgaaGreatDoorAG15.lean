/- VB: contracts: Awake's task of chapter 05 (telecinelaw05.Task), its spans and gaps. -/
import Derived.Test.YtphonfljfmedgaaGreatDoorAG2
import Derived.Test.YtphonfljfmedgaaGreatDoorAG14
import Derived.Test.YtphonfljfmedgaaGreatDoorAG5
import Derived.Test.YtphonfljfmedgaaGreatDoorAG13
set_option linter.unusedVariables false
set_option linter.unusedSimpArgs false
namespace Go.Dw
open Go Go.Dx Go.Proofs
set_option maxRecDepth 100000
theorem ZDK (a b:Int)(h:Heap):Sv Tryz.prog 34 [i64 a,i64 b] h (RetP fun v h'=>v=ZEw a b/\Ext h h'):=by
 refine ZA0 fun hw=>?_;refine ZAF Tryz.func34 rfl (by rw[Tryz.ntmps34];rfl) ?_;show Wc Tryz.prog ⟨34,8,none⟩ _ _ _ _ _;refine zy ?_;refine ZAa rfl rfl Zr.h fun h1 hE1 hW1 hg1 hn1=>?_;refine zy ?_;refine ZAe (r:=[i64 a,i64 b]) rfl Tsz.h rfl rfl hg1 rfl rfl rfl fun h2 hU2=>?_;have hE2:=hU2.ext hE1 hw (Nat.le_refl _);refine zy ?_;exact ZAB (ZAC (ZAW rfl (ZAt RowC.h (ZAL hU2.at' rfl)) rfl) ⟨rfl,hE2⟩)
theorem ZQZ (a b:Int)(h:Heap):Sv Tryz.prog 91 [i64 a,i64 b] h (RetP fun v h'=>v=ZEw a b/\Ext h h'):=by
 refine ZA0 fun hw=>?_;refine ZAF Tryz.func91 rfl (by rw[Tryz.ntmps91];rfl) ?_;show Wc Tryz.prog ⟨91,8,none⟩ _ _ _ _ _;refine zy ?_;refine ZAa rfl rfl Zr.h fun h1 hE1 hW1 hg1 hn1=>?_;refine zy ?_;refine ZAe (r:=[i64 a,i64 b]) rfl Tsz.h rfl rfl hg1 rfl rfl rfl fun h2 hU2=>?_;have hE2:=hU2.ext hE1 hw (Nat.le_refl _);refine zy ?_;exact ZAB (ZAC (ZAW rfl (ZAt RowC.h (ZAL hU2.at' rfl)) rfl) ⟨rfl,hE2⟩)
theorem ZG3 (f k a b:Int)(h:Heap):Sv Tryz.prog 33 [i64 f,i64 k,i64 a,i64 b] h (RetP fun v h'=>v=.agg ⟨rowG ⟨f,k,a,b⟩⟩/\Ext h h'):=by
 refine ZA0 fun hw=>?_;refine ZAF Tryz.func33 rfl (by rw[Tryz.ntmps33];rfl) ?_;show Wc Tryz.prog ⟨33,15,none⟩ _ _ _ _ _;refine zy ?_;refine ZAa rfl rfl Zr.h fun h1 hE1 hW1 hg1 hn1=>?_;refine zy ?_;refine zW (ZDK a b h1) fun h2 hE2=>?_;have hg2:=hE2.get hg1;have hE12:=hE1.trans hE2;refine zy ?_;refine ZAe (r:=rowG ⟨f,k,a,b⟩) rfl Tsz.h rfl rfl hg2 rfl rfl rfl fun h3 hU3=>?_;have hE3:=hU3.ext hE12 hw (Nat.le_refl _);refine zy ?_;exact ZAB (ZAC (ZAW rfl (ZAt RowC.h (ZAL hU3.at' rfl)) rfl) ⟨rfl,hE3⟩)
theorem ZFk {α:Type}{enc:α->List Value}{k:Nat}{h:Heap}{b:Nat}{t:TypeId}{p:Bool}{l:List α}(hk:∀x,(enc x).length=k)(hg:h.get b=some (.cells (l.flatMap enc) t p)):TabA enc k h (some ⟨b,0,none⟩) l:=by
 have:=(ZAE.rowsAt (h0:={ h with nx:=0 }) (h:=h) (el:=t) hk (.inr ⟨b,none,p,rfl,hg,ZBB hk l,Nat.zero_le _,.inl rfl⟩) rfl)
 obtain⟨a,e,hS,-⟩:=this;cases e;exact hS.1
theorem ZRq (h:Heap):Sv Tryz.prog 60 [] h (RetP fun v h'=>Ext h h'/\∃b1 b2 b3,v=.agg ⟨rowR ZJW (some ⟨b1,0,none⟩) 5 (some ⟨b2,0,none⟩) 2 (some ⟨b3,0,none⟩) 2⟩/\(h.nx<=b2/\h.nx<=b3)/\h'.get b2=some (.cells (ZJW.syms.flatMap rowP) 79 false)/\h'.get b3=some (.cells (ZJW.lens.flatMap rowM) 81 false)):=by
 refine ZA0 fun hw=>?_;refine ZAF Tryz.func60 rfl (by rw[Tryz.ntmps60];rfl) ?_;show Wc Tryz.prog ⟨60,15,none⟩ _ _ _ _ _;refine zy ?_;refine ZAa rfl rfl Zr.h fun h1 hE1 hW1 hg1 hn1=>?_;refine zy ?_;refine zW (ZQZ 1925 1940 h1) fun h2 hE2=>?_;have hE12:=hE1.trans hE2;have hg2:=hE2.get hg1;refine ZA4 fun hW2=>?_;refine zy ?_;refine ZDi (cs:=ZJW.marks.flatMap rowM) rfl rfl Und.h Tsz.h Zr.h rfl rfl rfl rfl (by kernel_rfl) fun h3 hE3 hW3 hg3 hn3=>?_;refine zy ?_;refine ZDi (cs:=ZJW.syms.flatMap rowP) rfl rfl Und.h Tsz.h Zr.h rfl rfl rfl rfl (by kernel_rfl) fun h4 hE4 hW4 hg4 hn4=>?_;refine zy ?_;refine ZDi (cs:=ZJW.lens.flatMap rowM) rfl rfl Und.h Tsz.h Zr.h rfl rfl rfl rfl (by kernel_rfl) fun h5 hE5 hW5 hg5 hn5=>?_
 have hE25:=hE3.trans (hE4.trans hE5);have hE15:=hE12.trans hE25;have k1:=hE25.get hg2;have k3:=(hE4.trans hE5).get hg3;have k4:=hE5.get hg4;refine zD (ZAZ (v:=.agg ⟨rowR ZJW (some ⟨h2.nx,0,none⟩) 5 (some ⟨h3.nx,0,none⟩) 2 (some ⟨h4.nx,0,none⟩) 2⟩) rfl (by kernel_rfl)) ?_;refine ZAe (r:=rowR ZJW (some ⟨h2.nx,0,none⟩) 5 (some ⟨h3.nx,0,none⟩) 2 (some ⟨h4.nx,0,none⟩) 2) rfl Tsz.h rfl rfl k1 rfl rfl rfl fun h6 hU6=>?_;have hE6:=hU6.ext hE15 hw (Nat.le_refl _);have hl1:=hE2.2.1;have hl2:=hE3.2.1;have hl3:=hE4.2.1;refine zy ?_;refine ZAB (ZAC (ZAW rfl (ZAt RowC.h (ZAL hU6.at' rfl)) rfl) ⟨hE6,_,_,_,rfl,⟨by omega,by omega⟩,hU6.get (by omega) k4,hU6.get (by omega) hg5⟩)
def tk0:Tk:=⟨ZRn,1200,1230,ZBQ⟩
set_option maxHeartbeats 4000000 in
theorem ZQ5 (h:Heap):Sv Tryz.prog 30 [] h (RetP fun v h'=>Ext h h'/\∃d,v=.agg ⟨ZD9 tk0 d⟩/\TkAt h' tk0 d/\∃b,d.an=some ⟨b,0,none⟩/\d.cn=7):=by
 refine ZA0 fun hw=>?_;refine ZAF Tryz.func30 rfl (by rw[Tryz.ntmps30];rfl) ?_;show Wc Tryz.prog ⟨30,23,none⟩ _ _ _ _ _;refine zy ?_;refine ZAa rfl rfl Zr.h fun h1 hE1 hW1 hg1 hn1=>?_;refine zy ?_;refine zR (ZRq h1) ?_;rintro _ h2 ⟨hE12,b1,b2,b3,rfl,⟨hb2,hb3⟩,y2,z2⟩;have hE2:=hE1.trans hE12;have g2:=hE12.get hg1;refine ZA4 fun hW2=>?_;refine zy ?_;refine ZAH rfl rfl Zr.h Tsz.h rfl (fun _=>rfl) rfl rfl rfl fun h3 hE3 hW3 hg3 hn3=>?_;have hE23:=hE2.trans hE3;have g3:=hE3.get g2;refine zy ?_;refine ZDi (cs:=ZCZ.flatMap rowM) rfl rfl Und.h Tsz.h Zr.h rfl rfl rfl rfl (by kernel_rfl) fun h4 hE4 hW4 hg4 hn4=>?_
 have hg34:=hE4.get hg3;have g4:=hE4.get g3;have hE24:=hE23.trans hE4;have y4:=(hE3.trans hE4).get y2;have z4:=(hE3.trans hE4).get z2;have hb2l:=hW2 _ _ y2;have hb3l:=hW2 _ _ z2;refine zy ?_;refine ZAe (r:=rowR ZRn (some ⟨h3.nx,0,none⟩) 3 (some ⟨b2,0,none⟩) 2 (some ⟨b3,0,none⟩) 2) rfl Tsz.h rfl rfl hg34 rfl rfl rfl fun h5 hU5=>?_;have hl1:=hE12.2.1;have hl3:=hE3.2.1;have hE5:=hU5.ext hE24 hw (by have:=hE2.2.1;omega);have y5:=hU5.get (by omega) y4;have z5:=hU5.get (by omega) z4;have x5:=hU5.get (by omega) hg4;have k5:=hU5.get (by omega) g4;have m5:=hU5.at';refine ZA4 fun hW5=>?_;refine zy ?_;refine ZAR hmix [0,0,0,2,10,10,42,0,42,298,0,298,2346,8190,16383,32767] [0,2,7,10] (some 1) [([],(some 3)),([4],(some 5)),([6],(some 8)),([9],(some 11)),([12,13,14],(some 15)),([],none)] (by kernel_rfl) (by kernel_rfl) ?_
 refine z_r ?_;refine ZAI rfl rfl rfl rfl rfl (fun _=>ZAZ (v:=.agg ⟨rowN (nt ada 1 3 0 49 0 0)⟩) rfl (by kernel_rfl)) ?_;refine ZAI rfl rfl rfl rfl rfl (fun _=>ZAZ (v:=.agg ⟨rowN (nt ada 4 2 520 525 0 0)⟩) rfl (by kernel_rfl)) ?_;refine ZAI rfl rfl rfl rfl rfl (fun _=>ZAZ (v:=.agg ⟨rowN (nt ben 2 2 524 530 0 0)⟩) rfl (by kernel_rfl)) ?_;refine ZAM [] (by kernel_rfl) rfl (ZAA rfl) rfl nb rfl (ZAT (ZAg rfl rfl rfl rfl rfl Bod.h (ZDK 1200 1230 h5) (fun v6 h6 hv hW6=>?_)));obtain⟨rfl,hE56⟩:=hv;have m6:=hE56.get m5;refine ZAM [1] (by kernel_rfl) rfl (by refine ZAQ (i:=10) rfl rfl rfl rfl rfl (fun _=>ZAZ (v:=.agg ⟨rowN (nt ben 2 2 524 530 0 0)⟩) rfl (by kernel_rfl)) rfl ?_;refine ZAQ (i:=7) rfl rfl rfl rfl rfl (fun _=>ZAZ (v:=.agg ⟨rowN (nt ada 4 2 520 525 0 0)⟩) rfl (by kernel_rfl)) rfl ?_;refine ZAQ (i:=2) rfl rfl rfl rfl rfl (fun _=>ZAZ (v:=.agg ⟨rowN (nt ada 1 3 0 49 0 0)⟩) rfl (by kernel_rfl)) rfl ?_;refine t_r 0 ?_;exact ZAA rfl) rfl nb rfl (ZAT (ZAg rfl rfl rfl rfl rfl Bod.h (ZDK 20 40 h6) (fun v7 h7 hv hW7=>?_)))
 obtain⟨rfl,hE67⟩:=hv;have m7:=hE67.get m6;refine ZAI rfl rfl rfl rfl rfl (fun _=>ZAZ (v:=.agg ⟨rowN (nt ada 2 1 150 150 20 40)⟩) rfl (by kernel_rfl)) ?_;refine ZAM [1,3] (by kernel_rfl) rfl (by refine ZAQ (i:=10) rfl rfl rfl rfl rfl (fun _=>ZAZ (v:=.agg ⟨rowN (nt ben 2 2 524 530 0 0)⟩) rfl (by kernel_rfl)) rfl ?_;refine ZAQ (i:=7) rfl rfl rfl rfl rfl (fun _=>ZAZ (v:=.agg ⟨rowN (nt ada 4 2 520 525 0 0)⟩) rfl (by kernel_rfl)) rfl ?_;refine ZAQ (i:=2) rfl rfl rfl rfl rfl (fun _=>ZAZ (v:=.agg ⟨rowN (nt ada 1 3 0 49 0 0)⟩) rfl (by kernel_rfl)) rfl ?_;refine t_r 0 ?_;exact ZAA rfl) rfl nb rfl (ZAT (ZAg rfl rfl rfl rfl rfl Bod.h (ZDK 0 300 h7) (fun v8 h8 hv hW8=>?_)))
 obtain⟨rfl,hE78⟩:=hv;have m8:=hE78.get m7;refine ZAI rfl rfl rfl rfl rfl (fun _=>ZAZ (v:=.agg ⟨rowN (nt ada 3 1 500 500 0 300)⟩) rfl (by kernel_rfl)) ?_;refine ZAM [1,3,5] (by kernel_rfl) rfl (by refine ZAQ (i:=4) rfl rfl rfl rfl rfl (fun _=>ZAZ (v:=.agg ⟨rowN (nt ada 2 1 150 150 20 40)⟩) rfl (by kernel_rfl)) rfl ?_;refine ZAQ (i:=10) rfl rfl rfl rfl rfl (fun _=>ZAZ (v:=.agg ⟨rowN (nt ben 2 2 524 530 0 0)⟩) rfl (by kernel_rfl)) rfl ?_;refine ZAQ (i:=7) rfl rfl rfl rfl rfl (fun _=>ZAZ (v:=.agg ⟨rowN (nt ada 4 2 520 525 0 0)⟩) rfl (by kernel_rfl)) rfl ?_;refine ZAQ (i:=2) rfl rfl rfl rfl rfl (fun _=>ZAZ (v:=.agg ⟨rowN (nt ada 1 3 0 49 0 0)⟩) rfl (by kernel_rfl)) rfl ?_;refine t_r 0 ?_;exact ZAA rfl) rfl nb rfl (ZAT (ZAg rfl rfl rfl rfl rfl Bod.h (ZDK 28 60 h8) (fun v9 h9 hv hW9=>?_)))
 obtain⟨rfl,hE89⟩:=hv;have m9:=hE89.get m8;refine ZAI rfl rfl rfl rfl rfl (fun _=>ZAZ (v:=.agg ⟨rowN (nt ben 1 1 150 150 28 60)⟩) rfl (by kernel_rfl)) ?_;refine ZAM [1,3,5,8] (by kernel_rfl) rfl (by refine ZAQ (i:=6) rfl rfl rfl rfl rfl (fun _=>ZAZ (v:=.agg ⟨rowN (nt ada 3 1 500 500 0 300)⟩) rfl (by kernel_rfl)) rfl ?_;refine ZAQ (i:=4) rfl rfl rfl rfl rfl (fun _=>ZAZ (v:=.agg ⟨rowN (nt ada 2 1 150 150 20 40)⟩) rfl (by kernel_rfl)) rfl ?_;refine ZAQ (i:=10) rfl rfl rfl rfl rfl (fun _=>ZAZ (v:=.agg ⟨rowN (nt ben 2 2 524 530 0 0)⟩) rfl (by kernel_rfl)) rfl ?_;refine ZAQ (i:=7) rfl rfl rfl rfl rfl (fun _=>ZAZ (v:=.agg ⟨rowN (nt ada 4 2 520 525 0 0)⟩) rfl (by kernel_rfl)) rfl ?_;refine ZAQ (i:=2) rfl rfl rfl rfl rfl (fun _=>ZAZ (v:=.agg ⟨rowN (nt ada 1 3 0 49 0 0)⟩) rfl (by kernel_rfl)) rfl ?_;refine t_r 0 ?_;exact ZAA rfl) rfl nb rfl (ZAT (ZAg rfl rfl rfl rfl rfl Bod.h (ZDK 5 10 h9) (fun v10 h10 hv hW10=>?_)))
 obtain⟨rfl,hE910⟩:=hv;have m10:=hE910.get m9;refine ZAI rfl rfl rfl rfl rfl (fun _=>ZAZ (v:=.agg ⟨rowN (nt ben 3 1 900 900 5 10)⟩) rfl (by kernel_rfl)) ?_;refine ZBS (nk:=.sl _ _) rfl rfl rfl rfl rfl (fun _ _ hs=>N_bs (cs:=ZBQ.flatMap rowN) hs Und.h Tsz.h Zr.h rfl rfl rfl rfl (by kernel_rfl)) ?_;refine ZAI rfl rfl rfl rfl rfl (fun _=>ZAZ (v:=.agg ⟨ZD9 tk0 ⟨some ⟨h3.nx,0,none⟩,3,some ⟨b2,0,none⟩,2,some ⟨b3,0,none⟩,2,some ⟨h10.nx,0,none⟩,7⟩⟩) rfl (by kernel_rfl)) ?_;have hEe:Ext h5 h10:=hE56.trans (hE67.trans (hE78.trans (hE89.trans hE910)));have hEa:Ext h10 (h10.add (.cells (ZBQ.flatMap rowN) 46 false)):=Ext.add hW10 _
 have k10:=(hEe.trans hEa).get k5;have m11:=hEa.get m10;refine ZAM (h1:=(Heap.add h10 (.cells (ZBQ.flatMap rowN) 46 false))) [0,1,2,3,4,5,6,7,8,9,10,11,12,13,14] (by kernel_rfl) rfl (by refine ZAQ (i:=9) rfl rfl rfl rfl rfl (fun _=>ZAZ (v:=.agg ⟨rowN (nt ben 1 1 150 150 28 60)⟩) rfl (by kernel_rfl)) rfl ?_;refine ZAQ (i:=6) rfl rfl rfl rfl rfl (fun _=>ZAZ (v:=.agg ⟨rowN (nt ada 3 1 500 500 0 300)⟩) rfl (by kernel_rfl)) rfl ?_;refine ZAQ (i:=4) rfl rfl rfl rfl rfl (fun _=>ZAZ (v:=.agg ⟨rowN (nt ada 2 1 150 150 20 40)⟩) rfl (by kernel_rfl)) rfl ?_;refine ZAQ (i:=10) rfl rfl rfl rfl rfl (fun _=>ZAZ (v:=.agg ⟨rowN (nt ben 2 2 524 530 0 0)⟩) rfl (by kernel_rfl)) rfl ?_;refine ZAQ (i:=7) rfl rfl rfl rfl rfl (fun _=>ZAZ (v:=.agg ⟨rowN (nt ada 4 2 520 525 0 0)⟩) rfl (by kernel_rfl)) rfl ?_;refine ZAQ (i:=2) rfl rfl rfl rfl rfl (fun _=>ZAZ (v:=.agg ⟨rowN (nt ada 1 3 0 49 0 0)⟩) rfl (by kernel_rfl)) rfl ?_;refine t_r 0 ?_;exact ZAA rfl) rfl rfl rfl (ZAT (ZCW rfl rfl Tsz.h rfl rfl k10 rfl rfl rfl (fun h12 hU12 hW12=>?_)))
 refine ZAc (ZAA rfl) rfl ?_;have hE12':=hU12.ext ((hE5.trans hEe).trans hEa) hw (Nat.le_refl _);refine zy ?_;have hln:h.nx<h10.nx:=by have:=hU5.nx;have:=hEe.2.1;omega
 refine ZAB (ZAC (ZAW rfl (ZAt RowC.h (ZAL hU12.at' rfl)) rfl) ⟨hE12',_,rfl,?_,h10.nx,rfl,rfl⟩);have hup:∀{b o},b≠h.nx->h5.get b=some o->h12.get b=some o:=fun hb hg=>hU12.get hb ((hEe.trans hEa).get hg);exact⟨⟨ZFk (fun _=>rfl) (hup (by omega) x5),ZFk (fun _=>rfl) (hup (by omega) y5),ZFk (fun _=>rfl) (hup (by omega) z5)⟩,ZFk (fun _=>rfl) (hU12.get (by omega) Heap.get_add_same)⟩
abbrev xVC0:List Nat:=[0,1,2,3,4,5,6,7,8,9,10,11,12]
theorem fit0:tk0.Fit:=⟨⟨by decide,by decide,by decide,by decide⟩,by decide,by show ∀x∈ZBQ,x.who.length<=281474976710656;decide⟩
theorem ZQN:ZAl tk0=0:=by
 unfold ZAl;rw[if_neg (fun q=>q err0)]
 decide +kernel
theorem stT0:ZAO tk0.notes=ZC8:=ZJe
theorem ldT0:ldT tk0=ld0:=by unfold ldT;rw[stT0];rfl
theorem spT0:spT tk0=sp0:=by unfold spT;rw[stT0];rfl
theorem pcT0:pcT tk0=ZBd ld0 sp0 1000:=by unfold pcT;rw[ldT0,spT0];rfl
theorem gpT0:gpT tk0=(gps0,[]):=by unfold gpT;rw[stT0,pcT0];exact gp0
theorem grT0:grT tk0=(grs0,[]):=by
 unfold grT;rw[ldT0,gpT0];exact grp0
theorem nwT0:nwT tk0=true:=by unfold nwT;rw[grT0];exact nw0
theorem ZUE:ZED tk0=(out0,[],[],0):=by
 unfold ZED;rw[if_neg (fun q=>q ZQN),if_neg (by rw[nwT0];decide),grT0,gpT0]
 show (ZLe (ZCd grs0),_)=_
 rw[srt0]
theorem ZQW:ZCp tk0 950=((1105,1180),0):=by
 unfold ZCp;rw[if_neg (fun q=>q ZQN),if_neg (by decide),ldT0,if_neg (by rw[show (950:Int).toNat=950 from rfl,lg0 (by decide)];decide),if_neg (by rw[nwT0];decide),grT0]
 show (ZA6 ld0 grs0 950,(0:Int))=_
 rw[ZTl]
theorem ZS3:(ZCp tk0 20).2=4:=by
 unfold ZCp;rw[if_neg (fun q=>q ZQN),if_neg (by decide),ldT0,if_pos (by rw[show (20:Int).toNat=20 from rfl,lg0 (by decide)];decide)]
abbrev spnT:TypeId:=23
noncomputable abbrev fndX (h:Heap)(b4 b6 b7 c1 bt c n:Nat)(a1:Option Addr)(yT yG:It)(st:List (Int×Int)×Value):List It:=[slI h st.2 spnT 2 (st.1.flatMap rowP) st.1.length,ceI b4 [st.2] 87 false,ceI b6 [.pointer (some ⟨bt,0,none⟩)] 100 false,ceI b7 [.slice a1 n c] 103 false,ceI c1 [.pointer (some ⟨bt,0,none⟩)] 100 false,yT,yG]
theorem ZUa (x0 x1:Value):Instr.fill (fun i=>some (i*2,2)) (rep 1 (Value.cells (.agg ⟨[i64 0,i64 0]⟩)).toList).toArray [(0,.agg ⟨[x0,x1]⟩)]=some ⟨[x0,x1]⟩:=by kernel_rfl
def FndC (ld:List Bool)(G:List Gr)(f:List Pc->List (Int×Int))(n:Int)(pre:List Pc)(x:Pc):Prop :=
 (x.leader=true/\f (pre++[x])=f pre)\/(x.leader=false/\∃pa pb,ZA6 ld G x.frm=(pa,pb)/\(0<=x.frm/\x.frm<n)/\(0<=x.til/\x.til<1000)/\(0<=pa/\pa<=2000)/\(0<=pb/\pb<=2000)/\((f pre=[]/\f (pre++[x])=[(max x.frm (x.frm+100-pb),min x.til (x.frm+100-pa))]/\max x.frm (x.frm+100-pb)<=min x.til (x.frm+100-pa))\/(f (pre++[x])=f pre/\¬max x.frm (x.frm+100-pb)<=min x.til (x.frm+100-pa))))
set_option maxHeartbeats 4000000 in
theorem ZRm {t:Tk}{d:Ads}{h:Heap}{f:List Pc->List (Int×Int)}(hF:t.Fit)(hR:TkAt h t d)(hok0:ZAl t=0)(hnw:nwT t=true)(hn1000:t.r.frames<=1000)(hf0:f []=[])(hfl:∀pre,(f pre).length<=1000)(hfc:∀pre x post,pcT t=pre++x::post->FndC (ldT t) (grT t).1 f t.r.frames pre x) :
  Sv Tryz.prog 31 [.agg ⟨ZD9 t d⟩,i64 100] h (RetP fun v h'=>Ext h h'/\∃v1,v=.tuple ⟨[v1,i64 0]⟩/\SlR rowP 2 h' v1 (f (pcT t))):=by
 refine ZA0 fun hw=>?_;have hok:=ZCQ hok0;obtain⟨am,cm,as',cs,al,cl,an,cn⟩:=d;refine ZAF Tryz.func31 rfl (by rw[Tryz.ntmps31];rfl) ?_;show Wc Tryz.prog ⟨31,102,none⟩ _ _ _ _ _;refine zy ?_;refine ZAv rfl rfl rfl fun h1 hE1 hW1 hg1 hn1=>?_;refine zy ?_;refine ZAv rfl rfl rfl fun h2 hE2 hW2 hg2 hn2=>?_;generalize h.nx=b2 at hg1;generalize hq3:h1.nx=b3 at hg2;have g21:=hE2.get hg1;replace hE2:=hE1.trans hE2;refine zy ?_;refine ZAa rfl rfl Zr.h fun h3 hE3 hW3 hg3 hn3=>?_;have hO3:=(Own.nil h2 h2).newCe hW2 (Nat.le_refl _) hE3 hg3 (Nat.le_refl _);generalize h2.nx=b4 at hO3 hg3 ⊢;have g31:=hE3.get g21
 have g32:=hE3.get hg2;refine zy ?_;refine zR (ZOb hF (hR.ext (hE2.trans hE3))) ?_;rintro _ h4 ⟨hE4,⟨hne,rfl⟩|⟨hz,bt,rfl,hbt,hT,yT,hyO,hyF⟩⟩
 ·exact absurd hok0 hne
 have hO4:=hO3.join hW3 hE3.2.1 hE4 hyO;replace hE4:=hE3.trans hE4;have hRl:∀{k},Ext h2 k->RlAt k am as' al t.r:=fun he=>hR.r.ext (hE2.trans he);refine ZA4 fun hW4=>?_;refine zy ?_;refine ZAH rfl rfl Zr.h Tsz.h rfl (fun _=>rfl) rfl rfl rfl fun h5 hE5 hW5 hg5 hn5=>?_;have hO5:=hO4.newCe hW4 hE4.2.1 hE5 hg5 (Nat.le_refl _);have hT5:=hT.ext hE5;replace hE5:=hE4.trans hE5;generalize h4.nx=b6 at hO5 hg5 ⊢;clear hO4 hO3 hyO;refine zy ?_;refine zE (A_ff (fun q=>q rfl) (ZA3 rfl rfl)) ?_;have k3:=hE5.get hg2;refine zy ?_;refine zV (ZBJ (a:=100) (lo:=0) (hi:=399999) (decide_eq_false (by decide)) _) ?_;refine zR (ZID hT5 hok) ?_
 rintro _ h6 ⟨hE6,a1,c,v2,v3,rfl,hR6,-,-,yG,hgO,hgF⟩;have hO6:=hO5.join hW5 hE5.2.1 hE6 hgO;have hT6:=hT5.ext hE6;have hg6:=hE6.get hg5;replace hE6:=hE5.trans hE6;rw[hnw];clear hgO hO5;have hb:=ZJu hok;generalize grT t=GG at *;obtain⟨G,wr⟩:=GG;simp only at hb hgF hR6 hfc ⊢;refine ZA4 fun hW6=>?_;refine zy ?_;refine ZAH rfl rfl Zr.h Tsz.h rfl (fun _=>rfl) rfl rfl rfl fun h7 hE7 hW7 hg7 hn7=>?_;have hO7:=hO6.newCe hW6 hE6.2.1 hE7 hg7 (Nat.le_refl _);have hT7:=hT6.ext hE7;have hgb7:=hE7.get hg6;replace hE7:=hE6.trans hE7;generalize h6.nx=b7 at hO7 hg7 ⊢;clear hO6;refine zy ?_;refine ZA5 rfl rfl rfl rfl rfl Bod.h rfl rfl ZGy ?_
 rintro _ h8 ⟨c1,rfl,hE8,hO8'⟩;have hO8a:=hO7.join hW7 hE7.2.1 hE8 hO8';replace hE8:=hE7.trans hE8;have hO8b:=hO8a.nilSl spnT 2
 have hO8:Own h2 h8 (fndX h2 b4 b6 b7 c1 bt c G.length a1 yT yG ([],.slice none 0 0)) :=
  hO8b.shuf (ceI 0 [] 0 false) [0,1,2,3,4,5,6] [0,6,4,2,1,5,3] (by decide) rfl
 clear hO8b hO8a hO8' hO7;have hX:∀{st R k},Own h2 k (fndX h2 b4 b6 b7 c1 bt c G.length a1 yT yG st++R)->Ext h2 k->TbAt k bt t ⟨am,cm,as',cs,al,cl,an,cn⟩/\ZAV 3 GrAt k a1 G:=fun {st R k} hO hE=>⟨hyF k (hO.has yT (by simp)) (hRl hE),hgF k (hO.has yG (by simp))⟩;have hpc:=ZGD (X:=fndX h2 b4 b6 b7 c1 bt c G.length a1 yT yG) hW2 (fun hO hE=>(hX hO hE).1) hok (fun st=>(by simp:ceI c1 [.pointer (some ⟨bt,0,none⟩)] 100 false∈fndX h2 b4 b6 b7 c1 bt c G.length a1 yT yG st));have hpl:=fun {k f} (hT:TbAt k bt t ⟨am,cm,as',cs,al,cl,an,cn⟩) (hf) (hG)=>ZL8 (h:=k) (f:=f) (c:=c) (l:=G) (a:=a1) hT hok hf hG hb.1 hb.2.2.1
 generalize ldT t=ld at *;generalize pcT t=PC at *;clear hyF hgF hRl hR6 hT6 hT7 hT5 hT hg5 hg6 hgb7 hg7 g31 g32 g21 k3 hz hnw;refine zy ?_;refine ZGm (q:=11) (X:=fndX h2 b4 b6 b7 c1 bt c G.length a1 yT yG) (ok:=fun pre st=>st.1=f pre) (L:=PC) (enc:=ZOq) (cs:=ZB4) (el:=120) (op:=false) (s0:=([],.slice none 0 0)) rfl rfl Bod.h rfl hW2 hE8 hO8 hf0.symm hpc (fun l x h'=>?_) (fun l bn pre x post st h9 R hsp hok' hO9 hE9=>?_) (fun st h9 hok9 hO9 hE9=>?_)
 ·refine ZEI ?_
  refine ZAH rfl rfl Zr.h Tsz.h rfl (fun _=>rfl) rfl rfl rfl fun h10 hE10 hW10 hg10 hn10=>?_;exact ZKP ⟨rfl,rfl,rfl,hE10,hg10⟩
 ·obtain⟨T,v⟩:=st
  simp only at hok';obtain⟨hT9,hG9⟩:=hX hO9.tail hE9;have hgn:h9.get bn=some (.cells (ZB4 x) 120 false):=hO9.p1;have hg3':=hE9.get hg2;have hO9':Own h2 h9 (fndX h2 b4 b6 b7 c1 bt c G.length a1 yT yG (T,v)++R):=hO9.tail;have hg6':h9.get b6=some (.cells [.pointer (some ⟨bt,0,none⟩)] 100 false):=hO9'.p3;have hg7':h9.get b7=some (.cells [.slice a1 G.length c] 103 false):=hO9'.p4;obtain⟨at',ct,e1⟩:=ZAj hO9';replace e1:v=.slice at' T.length ct:=e1;subst e1;have hcc:=hfc pre x post hsp;have hTl:T.length<=1000:=by rw[hok'];exact hfl _
  refine zy ?_
  cases hld:x.leader with
  | true =>
   refine zy ?_;refine⟨rfl,(T,.slice at' T.length ct),?_,hO9',hE9⟩
   show T=f (pre++[x])
   rcases hcc with ⟨-,e2⟩|⟨e,-⟩
   ·rw[e2,hok']
   ·rw[e] at hld;exact absurd hld (by decide)
  | false =>
   rcases hcc with ⟨e,-⟩|⟨-,pa,pb,hpq,⟨u1,u2⟩,⟨u3,u4⟩,⟨u5,u6⟩,⟨u7,u8⟩,hcs⟩
   ·rw[e] at hld;exact absurd hld (by decide)
   have hP:=hpl (f:=x.frm) hT9 ⟨u1,u2⟩ hG9;rw[hpq] at hP;refine zy ?_;refine ZA5 rfl rfl rfl rfl rfl Bod.h rfl rfl hP ?_;rintro _ h10 ⟨hE10,rfl⟩;have hO10:=hO9'.ext hE10;have gn10:=hE10.get hgn;have g310:=hE10.get hg3';replace hE10:=hE9.trans hE10;refine ZA4 fun hW10=>?_;refine zy ?_;refine ZAH rfl rfl Zr.h Tsz.h rfl (fun _=>rfl) rfl rfl rfl fun h11 hE11 hW11 hg11 hn11=>?_;have hO11:=hO10.ext hE11;have gn11:=hE11.get gn10;have g311:=hE11.get g310;replace hE11:=hE10.trans hE11;refine zy ?_;refine zW (ZGw _ _ _ _ _) fun h12 hE12=>?_;have hO12:=hO11.ext hE12;replace hE12:=hE11.trans hE12;refine ZA4 fun hW12=>?_
   refine zy ?_;refine ZAH rfl rfl Zr.h Tsz.h rfl (fun _=>rfl) rfl rfl rfl fun h13 hE13 hW13 hg13 hn13=>?_;have hO13:=hO12.ext hE13;replace hE13:=hE12.trans hE13;have g413:h13.get b4=some (.cells [.slice at' T.length ct] 87 false):=hO13.p2;clear hO12 hO11 hO10 hO9' hO9 hE12 hE11 hE10 hE9
   rcases hcs with ⟨hT0,hf1,hyes⟩|⟨hf1,hno⟩
   ·rw[hT0] at hok'
    have hT1:T.length=0:=by rw[hok'];rfl
    generalize x.frm+100-pb=qa at *;generalize x.frm+100-pa=qb at *;rw[decide_eq_true hyes];generalize hlo:max x.frm qa=lo at *;generalize hhi:min x.til qb=hi at *;refine zy ?_;refine ZAR hmix [0,1,3,7,7,31,63,127,7,263,775,2047,4095,8191] xVC0 (some 13) [([],none)] (by kernel_rfl) (by kernel_rfl) ?_;refine z_m ?_;refine ZAI rfl rfl rfl rfl rfl (fun _=>A_ff (by omega) (ZHO rfl rfl)) ?_;refine z_m ?_;refine z_o ?_;refine z_o ?_;refine z_o ?_;refine z_o ?_;refine z_o ?_;refine z_o ?_;refine z_o ?_;refine z_o ?_;refine z_o ?_;refine z_p ?_;refine ZAM xVC0 (by kernel_rfl) rfl (ZAA rfl) rfl nb rfl (ZBm rfl rfl (ZAY rfl) ?_)
    refine ZAc (ZAA rfl) nb' ?_;subst hok';refine zy ?_;refine ZDi (cs:=rowP (lo,hi)) rfl rfl Und.h Tsz.h Zr.h rfl rfl rfl rfl (ZUa _ _) fun h14 hE14 hW14 hg14 hn14=>?_;have k4:=hE14.get g413;refine zy ?_;refine ZBH (k:=1) (n:=0) (l:=rowP (lo,hi)) hW2 (hE13.trans hE14) rfl rfl rfl rfl rfl Und.h inferInstance rfl rfl (hO13.ext hE14) (ZAm Und.h (by intro k;simp) (ZAL hg14 rfl)) rfl rfl (by simp) (by simp) fun v8 h15 hW15 hO15 hE15=>?_;obtain⟨a8,c8,rfl⟩:=ZAj hO15;refine zy ?_;refine ZAU (r:=[.slice a8 1 c8]) hW2 hE15 rfl Tsz.h rfl rfl hO15.up2 rfl rfl rfl fun h16 hW16 hO16 hE16=>?_;refine zy ?_;refine⟨rfl,([(lo,hi)],.slice a8 1 c8),hf1.symm,?_,hE16⟩
    exact hO16.up2
   ·rw[decide_eq_false hno]
    refine zy ?_;refine⟨rfl,(T,.slice at' T.length ct),?_,hO13,hE13⟩
    show T=f (pre++[x])
    rw[hf1,hok']
 ·obtain⟨T,v⟩:=st
  simp only at hok9;have hO7:=hO9.tail;obtain⟨at',ct,e1⟩:=ZAj hO7;replace e1:v=.slice at' T.length ct:=e1;subst e1;have hg4:h9.get b4=some (.cells [.slice at' T.length ct] 87 false):=hO7.p2;have hF9:ZAE h2 h9 (.slice at' T.length ct) spnT 2 (T.flatMap rowP) T.length:=hO7.p1;rw[<-hok9];clear hpc hfc hfl hpl hX;refine zy ?_;refine ZAU (r:=[.slice at' T.length ct]) hW2 hE9 rfl Tsz.h rfl rfl hO9.up3 rfl rfl rfl fun h16 hW16 hO16 hE16=>?_;refine zy ?_;have hO12:Own h2 h16 ([h8.nx].map (fun r=>loI r .defd)++fndX h2 b4 b6 b7 c1 bt c G.length a1 yT yG (T,.slice at' T.length ct)):=hO16.dn3;have hcl:ZDA h2 h16 [h8.nx]:=hO12.colls
  have hO13:=hO12.del;have hr2:(delL h16 [h8.nx]).get b4=some (.cells [.slice at' T.length ct] 87 false):=hO13.p2;refine ZAB (ZGs hcl.nd hcl.defd (ZAW rfl (ZCM OneC.h (ZAP hr2 rfl)) rfl) ⟨hE2.trans (hcl.ext0 hE16 hW2),_,rfl,?_⟩);exact ZAE.slR (enc:=rowP) (k:=2) (el:=spnT) (h0:=h2) (fun _=>rfl) hO13.p1
theorem ZQO {d:Ads}{h:Heap}(hR:TkAt h tk0 d) :
  Sv Tryz.prog 31 [.agg ⟨ZD9 tk0 d⟩,i64 100] h (RetP fun v h'=>Ext h h'/\∃v1,v=.tuple ⟨[v1,i64 0]⟩/\SlR rowP 2 h' v1 [((75:Int),(149:Int))]):=by
 have:=ZRm (f:=fnd0) fit0 hR ZQN nwT0 (by decide) rfl (fun pre=>by unfold fnd0;split <;> simp) fun pre x post hsp=>by
  rw[pcT0] at hsp;rw[ldT0,grT0]
  rcases ZKt hsp with ⟨rfl,e1,e2⟩|⟨rfl,e1,e2⟩|⟨e0,e1,e2,w1,w2,pa,pb,w3,w4,w5,w6⟩
  ·exact .inl ⟨rfl,by rw[e1,e2]⟩
  ·exact .inr ⟨rfl,0,75,ZUl,by decide,by decide,by decide,by decide,.inl ⟨e1,by rw[e2];decide,by decide⟩⟩
  ·exact .inr ⟨e0,pa,pb,w3,w1,w2,w4,w5,.inr ⟨by rw[e1,e2],by omega⟩⟩
 rw[pcT0,ZQ9] at this;exact this
end Go.Dw
