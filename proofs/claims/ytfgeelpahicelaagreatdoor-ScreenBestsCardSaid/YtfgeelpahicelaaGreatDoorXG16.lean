/- L11: ScreenBests: its contract, for any task, shows, venue and prices. -/
import Derived.Test.YtfgeelpahicelaaGreatDoorXG2
import Derived.Test.YtfgeelpahicelaaGreatDoorXG11
import Derived.Test.YtfgeelpahicelaaGreatDoorXG12
import Derived.Test.YtfgeelpahicelaaGreatDoorXG15
set_option linter.unusedVariables false
set_option linter.unusedSimpArgs false
namespace Go.Dw
open Go Go.Dx Go.Proofs
set_option maxRecDepth 100000
set_option maxHeartbeats 8000000 in
theorem ZHf {tc:List Value}{t:ScT}{l:List ScS}{v:Int}{Q:List (Int×Int)}{al aq:Option Addr}{cl cq:Nat}{h:Heap}(ht:ZBX h tc t)(hT:t.Fit)(hl:ZAN 6 ScSR h al l)(hlF:∀s∈l,s.Fit)(hL:Len l)(hv:I64 v)(hQ:ZAN 2 PrR h aq Q)(hLQ:Len Q)(hTb:TabAt spTab h):Sv Tryz.prog 13 [.agg ⟨tc⟩,.slice al l.length cl,.agg ⟨[i64 v,.slice aq Q.length cq]⟩] h (RetP fun v h'=>v=.bool true/\Ext h h'):=by
 have ht0:=ht;obtain⟨xl,cxl,at',ct,a1,c1',a2,c2',a3,c3',a4,c4',a5,c5',a6,c6',rfl,-⟩:=ht;refine ZAy fun hw=>?_;refine ZAH Tryz.func13 rfl (by rw[Tryz.ntmps13];rfl) ?_;show Wc Tryz.prog ⟨13,95,none⟩ _ _ _ _ _;refine zy ?_;refine ZAa rfl rfl rfl fun h1 hE1 hW1 hg1 hn1=>?_;refine zy ?_;refine ZAa rfl rfl rfl fun h2 hE2 hW2 hg2 hn2=>?_;replace hg1:=hE2.get hg1;have hE:=hE1.trans hE2;generalize h.nx=b1 at *;generalize h1.nx=b2 at *;clear hW1 hn1 hW2 hn2 hE1 hE2;clear h1;have hcov:=fun {h':Heap} (hE:Ext h h')=>ZMz (cq:=cq) (cl:=cl) (ht0.ext hE) hT hv (ZAN.ext (R:=ScSR) (fun x _=>x) hl hE) hlF hL (ZAN.ext (R:=PrR) (fun x _=>x) hQ hE) hLQ
 have hrcov:=fun {h':Heap} (hE:Ext h h')=>ZK7 (cq:=cq) (cl:=cl) (ht0.ext hE) hT hv (ZAN.ext (R:=ScSR) (fun x _=>x) hl hE) hlF hL (ZAN.ext (R:=PrR) (fun x _=>x) hQ hE) hLQ;refine zy ?_;refine ZAq rfl rfl rfl rfl rfl Bod.h rfl rfl (ZO6 (ht0.ext hE) hT hv (ZAN.ext (R:=ScSR) (fun x _=>x) hl hE) hlF hL) ?_;rintro _ h3 ⟨hE3,hr⟩;replace hg1:=hE3.get hg1;replace hg2:=hE3.get hg2;replace hE:=hE.trans hE3
 rcases hr with ⟨he,rfl⟩|⟨he,va,vp,E,rfl,hA,hEn,hP⟩
 ·refine zy ?_
  refine ZAq rfl rfl rfl rfl rfl Bod.h rfl rfl (ZIR (ht0.ext hE) hT hv (ZAN.ext (R:=ScSR) (fun x _=>x) hl hE) hlF hL) ?_;rintro _ h4 ⟨hE4,⟨he',rfl⟩|⟨he',_⟩⟩;rotate_left
  ·exact absurd he' he
  replace hg1:=hE4.get hg1;replace hg2:=hE4.get hg2;replace hE:=hE.trans hE4;refine zy ?_;refine ZA6 rfl rfl rfl rfl rfl Bod.h rfl rfl (ZH7 (l:=[]) (l':=[]) (fun _ hi=>absurd hi (Nat.not_lt_zero _)) (fun _ hi=>absurd hi (Nat.not_lt_zero _)) (by decide) (by decide)) ?_;rw[decide_eq_true rfl];refine zy ?_;refine ZAI rfl rfl rfl rfl (A_ff (fun q=>q rfl) (ZAb rfl rfl)) ?_;refine zy ?_;refine ZA6 rfl rfl rfl rfl rfl Bod.h rfl rfl (ZGB (l:=[]) (fun _ hi=>absurd hi (Nat.not_lt_zero _)) (fun _ hi=>absurd hi (Nat.not_lt_zero _)) (by decide)) ?_;refine zy ?_;refine ZAI rfl rfl rfl rfl (A_ff (fun q=>q rfl) (ZAb rfl rfl)) ?_
  refine zy ?_;refine ZAS rfl rfl rfl rfl rfl Bod.h rfl rfl (hcov hE) fun h5 hE5=>?_;replace hg1:=hE5.get hg1;replace hg2:=hE5.get hg2;replace hE:=hE.trans hE5;unfold covV;refine zy ?_;refine ZAS rfl rfl rfl rfl rfl Bod.h rfl rfl (hrcov hE) fun h6 hE6=>?_;replace hE:=hE.trans hE6;unfold covV;refine zy ?_;refine ZAI rfl rfl rfl rfl (A_tt rfl (ZAX rfl rfl)) ?_;refine zy ?_;refine ZAI rfl rfl rfl rfl (A_tt rfl (ZAX rfl rfl)) ?_;refine zy ?_;refine ZAI rfl rfl rfl rfl (A_tt rfl (ZAX rfl rfl)) ?_;refine zy ?_;refine ZA6 rfl rfl rfl rfl rfl Bod.h rfl rfl (ZMP (hTb.ext hE)) ?_;refine zy ?_;exact ZAC (ZAD rfl ⟨rfl,hE⟩)
 obtain⟨aA,rfl,hAl,hAr⟩:=ZAG.list (enc:=i64) hA;obtain⟨aP,cP,rfl,hPr⟩:=ZJx hP;have hchl:(ZDB t v l).length<=l.length:=by
  have h1:=(ZIZ (fun c:ScS×Nat=>ivS t c.1) 115200 (W:=ZGn t v l) (n:=(canS t v l).length) (l:=canS t v l) (s:=0)).length_le;exact Nat.le_trans h1 ZFM
 clear hA hP;refine zy ?_;refine ZAq rfl rfl rfl rfl rfl Bod.h rfl rfl (ZIR (ht0.ext hE) hT hv (ZAN.ext (R:=ScSR) (fun x _=>x) hl hE) hlF hL) ?_;rintro _ h4 ⟨hE4,⟨he',_⟩|⟨_,vb,vq,F,rfl,hB,hFn,hR⟩⟩
 ·exact absurd he he'
 replace hg1:=hE4.get hg1;replace hg2:=hE4.get hg2;replace hE:=hE.trans hE4;replace hAr:=hAr.ext hE4;replace hPr:=ZAN.ext (R:=PrR) (fun x _=>x) hPr hE4;obtain rfl:=hEn.same hFn;obtain⟨aB,rfl,-,hBr⟩:=ZAG.list (enc:=i64) hB;obtain⟨aR,cR,rfl,hRr⟩:=ZJx hR;clear hB hR;have hpl:=ZFt (l:=canI t v l) (E:=E);have hel:=ZMX hEn;have hcl:(canI t v l).length<=l.length:=by unfold canI;rw[List.length_map];exact ZFM
 have hLl:l.length<9223372036854775808:=hL;generalize hch:(ZDB t v l).map (fun c=>(c.2:Int))=CH at *;have hchl2:CH.length<=l.length:=by rw[<-hch,List.length_map];exact hchl
 generalize ZBh (canI t v l) E=PR at *;generalize ZGn t v l=W at *;refine zy ?_;refine ZA6 rfl rfl rfl rfl rfl Bod.h rfl rfl (ZH7 hAr hBr (Nat.lt_of_le_of_lt hchl2 hLl) (Nat.lt_of_le_of_lt hchl2 hLl)) ?_;rw[decide_eq_true rfl];refine zy ?_;refine ZAI rfl rfl rfl rfl (A_ff (fun q=>q rfl) (ZAb rfl rfl)) ?_;refine zy ?_;refine ZA6 rfl rfl rfl rfl rfl Bod.h rfl rfl (ZGB hPr hRr (show PR.length<9223372036854775808 by omega)) ?_;refine zy ?_;refine ZAI rfl rfl rfl rfl (A_ff (fun q=>q rfl) (ZAb rfl rfl)) ?_;refine zy ?_;refine ZAS rfl rfl rfl rfl rfl Bod.h rfl rfl (hcov hE) fun h5 hE5=>?_;replace hg1:=hE5.get hg1
 replace hg2:=hE5.get hg2;replace hE:=hE.trans hE5;unfold covV;refine zy ?_;refine ZAS rfl rfl rfl rfl rfl Bod.h rfl rfl (hrcov hE) fun h6 hE6=>?_;replace hE:=hE.trans hE6;unfold covV;refine zy ?_;refine ZAI rfl rfl rfl rfl (A_tt rfl (ZAX rfl rfl)) ?_;refine zy ?_;refine ZAI rfl rfl rfl rfl (A_tt rfl (ZAX rfl rfl)) ?_;refine zy ?_;refine ZAI rfl rfl rfl rfl (A_tt rfl (ZAX rfl rfl)) ?_;refine zy ?_;refine ZA6 rfl rfl rfl rfl rfl Bod.h rfl rfl (ZMP (hTb.ext hE)) ?_;refine zy ?_;exact ZAC (ZAD rfl ⟨rfl,hE⟩)
end Go.Dw
