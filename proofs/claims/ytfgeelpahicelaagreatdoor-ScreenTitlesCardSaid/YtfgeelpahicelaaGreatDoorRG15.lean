/- L9: ScreenTitles: its contract, for any subtitles, cuts, speed and rate. -/
import Derived.Test.YtfgeelpahicelaaGreatDoorRG2
import Derived.Test.YtfgeelpahicelaaGreatDoorRG10
import Derived.Test.YtfgeelpahicelaaGreatDoorRG14
set_option linter.unusedVariables false
set_option linter.unusedSimpArgs false
namespace Go.Dw
open Go Go.Dx Go.Proofs
set_option maxRecDepth 100000
def retL (n:Int)(cs:List Cut)(l:List Ttl):List Ttl:=if retErr n cs l=0 then retimeS cs l else []
theorem retL_len (n:Int)(cs:List Cut)(l:List Ttl):(retL n cs l).length<=l.length:=by
 unfold retL
 split
 ·exact retimeS_len cs l
 ·exact Nat.zero_le _
theorem RetR.both {n:Int}{cs:List Cut}{l:List Ttl}{h h':Heap}{v:Value}(a:RetR n cs l h v h'):Ext h h'/\∃b c,v=.tuple ⟨[.slice b (retL n cs l).length c,i64 (retErr n cs l)]⟩/\RowsAt 3 TtlR h' b (retL n cs l):=by
 obtain⟨hE,⟨he,rfl⟩|⟨he,va,rfl,hF⟩⟩:=a
 ·refine⟨hE,none,0,?_,?_⟩
  ·unfold retL;rw[if_neg he];rfl
  ·unfold retL;rw[if_neg he];exact fun _ hi=>absurd hi (Nat.not_lt_zero _)
 ·obtain⟨b,c,rfl,hR⟩:=ttRows_at hF
  refine⟨hE,b,c,?_,?_⟩
  ·unfold retL;rw[if_pos he,he]
  ·unfold retL;rw[if_pos he];exact hR
def unL (l:List Ttl)(speed rate:Int):List Int:=if unErr l speed rate=0 then (unreadS l speed rate).map fun n:Nat=>(n:Int) else []
theorem unL_len (l:List Ttl)(speed rate:Int):(unL l speed rate).length<=l.length:=by
 unfold unL
 split
 ·rw[List.length_map,<-unreadK_all];exact unreadK_len
 ·exact Nat.zero_le _
theorem UnR.both {l:List Ttl}{speed rate:Int}{h h':Heap}{v:Value}(a:UnR l speed rate h v h'):Ext h h'/\∃b c,v=.tuple ⟨[.slice b (unL l speed rate).length c,i64 (unErr l speed rate)]⟩/\IntsAt h' b (unL l speed rate):=by
 obtain⟨hE,⟨he,rfl⟩|⟨he,va,rfl,hF⟩⟩:=a
 ·refine⟨hE,none,0,?_,?_⟩
  ·unfold unL;rw[if_neg he];rfl
  ·unfold unL;rw[if_neg he];exact fun _ hi=>absurd hi (Nat.not_lt_zero _)
 ·have hm:(unreadS l speed rate).map natV=((unreadS l speed rate).map fun n:Nat=>(n:Int)).map i64:=by rw[List.map_map];rfl
  rw[hm] at hF
  obtain⟨b,rfl,hn,hR⟩:=FreshSl.list (enc:=i64) hF
  refine⟨hE,b,((unreadS l speed rate).map fun n:Nat=>(n:Int)).length,?_,?_⟩
  ·unfold unL;rw[if_pos he,he]
  ·unfold unL;rw[if_pos he];exact hR
set_option maxHeartbeats 1000000 in
theorem screenTitles_sv {n speed rate:Int}{cs:List Cut}{l:List Ttl}{ac al:Option Addr}{cc cl:Nat}{h:Heap}(hI:I64 n)(hs:I64 speed)(hr:I64 rate)(hcs:RowsAt 2 CutR h ac cs)(hcF:∀c∈cs,c.Fit)(hcL:Len cs)(hl:RowsAt 3 TtlR h al l)(hF:∀x∈l,x.Fit)(hL:Len l)(hLib:LibAt h)(hTb:TabAt spTab h):Sv Tryz.prog 7 [.slice al l.length cl,.agg ⟨[i64 n,i64 speed,i64 rate,.slice ac cs.length cc]⟩] h (RetP fun v h'=>v=.bool true/\Ext h h'):=by
 refine Sv_wf fun hw=>?_
 refine Sv_enter Tryz.func7 rfl (by rw[Tryz.ntmps7];rfl) ?_;show Wc Tryz.prog ⟨7,67,none⟩ _ _ _ _ _
 refine zy ?_
 refine Wo_box rfl rfl rfl fun h1 hE hW1 hg1 hn1=>?_
 generalize h.nx=b1 at *
 clear hW1 hn1
 refine zy ?_
 refine Wo_callr rfl rfl rfl rfl rfl Bod.h rfl rfl (scRetime_sv hI (RowsAt.ext (R:=CutR) (fun x _=>x) hcs hE) hcF hcL (RowsAt.ext (R:=TtlR) (fun x _=>x) hl hE) hF hL (hLib.ext hE)) ?_
 intro v h2 hv
 obtain⟨hE2,a1,c1,rfl,hA⟩:=hv.both
 replace hg1:=hE2.get hg1
 replace hE:=hE.trans hE2
 clear hE2 hv
 refine zy ?_
 refine Wo_callr rfl rfl rfl rfl rfl Bod.h rfl rfl (refRetime_sv hI (RowsAt.ext (R:=CutR) (fun x _=>x) hcs hE) hcF hcL (RowsAt.ext (R:=TtlR) (fun x _=>x) hl hE) hF hL) ?_
 intro v h3 hv
 obtain⟨hE3,a2,c2,rfl,hB⟩:=hv.both
 replace hg1:=hE3.get hg1
 replace hE:=hE.trans hE3
 replace hA:=RowsAt.ext (R:=TtlR) (fun x _=>x) hA hE3
 clear hE3 hv
 have hrl:=retL_len n cs l
 generalize retL n cs l=L at *
 generalize retErr n cs l=e at *
 refine zy ?_
 refine Wo_callV rfl rfl rfl rfl rfl Bod.h rfl rfl (refTitlesEq_sv hA hB (Nat.lt_of_le_of_lt hrl hL) (Nat.lt_of_le_of_lt hrl hL)) ?_
 rw[decide_eq_true rfl]
 refine zy ?_
 refine Wo_dec rfl rfl rfl rfl (A_neq rfl rfl) (fun h9=>?_) (fun h9=>?_)
 ·exact absurd rfl h9
 refine zy ?_
 refine Wo_callr rfl rfl rfl rfl rfl Bod.h rfl rfl (scUnread_sv (RowsAt.ext (R:=TtlR) (fun x _=>x) hl hE) hF hL hs hr (hLib.ext hE)) ?_
 intro v h4 hv
 obtain⟨hE4,a3,c3,rfl,hC⟩:=hv.both
 replace hg1:=hE4.get hg1
 replace hE:=hE.trans hE4
 clear hE4 hv
 refine zy ?_
 refine Wo_callr rfl rfl rfl rfl rfl Bod.h rfl rfl (refUnread_sv (RowsAt.ext (R:=TtlR) (fun x _=>x) hl hE) hF hL hs hr) ?_
 intro v h5 hv
 obtain⟨hE5,a4,c4,rfl,hD⟩:=hv.both
 replace hE:=hE.trans hE5
 replace hC:=hC.ext hE5
 clear hE5 hv
 have hul:=unL_len l speed rate
 generalize unL l speed rate=U at *
 generalize unErr l speed rate=e' at *
 refine zy ?_
 refine Wo_callV rfl rfl rfl rfl rfl Bod.h rfl rfl (refInts_sv hC hD (Nat.lt_of_le_of_lt hul hL) (Nat.lt_of_le_of_lt hul hL)) ?_
 rw[decide_eq_true rfl]
 refine zy ?_
 refine Wo_dec rfl rfl rfl rfl (A_eql rfl rfl) (fun h10=>?_) (fun h10=>?_)
 rotate_left
 ·exact absurd rfl h10
 refine zy ?_
 refine Wo_callV rfl rfl rfl rfl rfl Bod.h rfl rfl (awake_sv (hTb.ext hE)) ?_
 refine zy ?_
 exact Wc_ret (Lv_ret rfl ⟨rfl,hE⟩)
end Go.Dw
