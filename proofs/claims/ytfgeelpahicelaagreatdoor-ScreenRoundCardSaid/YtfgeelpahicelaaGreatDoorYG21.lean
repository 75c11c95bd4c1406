/- L13: ScreenFiles: its contract, for any subtitles and any file. -/
import Derived.Test.YtfgeelpahicelaaGreatDoorYG2
import Derived.Test.YtfgeelpahicelaaGreatDoorYRunA
import Derived.Test.YtfgeelpahicelaaGreatDoorYG15
import Derived.Test.YtfgeelpahicelaaGreatDoorYG20
set_option linter.unusedVariables false
set_option linter.unusedSimpArgs false
namespace Go.Dw
open Go Go.Dx Go.Proofs
set_option maxRecDepth 100000
theorem ZFU {h:Heap}(hT:TabAt spTab h):Sv Tryz.prog 23 [] h (RetP fun v h'=>v=.bool true/\h'=h):=ZNH Go.Dx.awake hT
theorem ZG5 (s:Byt):(ZBI s).1.length<=40:=by
 by_cases h:(ZBI s).2=0
 ·exact (ZBk (ZGc h).1).1
 ·rw[ZIo h];exact Nat.zero_le _
set_option maxHeartbeats 1000000 in
theorem ZFd {l:List Ttl}{s:Byt}{al:Option Addr}{cl:Nat}{h:Heap}(hl:ZAU 3 TtlR h al l)(hF:∀x∈l,x.Fit)(hL:Len l)(hs:Len s)(hLib:LibAt h)(hPow:PowAt h)(hErr:ErrAt h)(hTb:TabAt spTab h):Sv Tryz.prog 16 [.slice al l.length cl,str s] h (RetP fun v h'=>v=.bool true/\Ext h h'):=by
 refine ZFF fun hw=>?_;refine ZAJ Tryz.func16 rfl (by rw[Tryz.ntmps16];rfl) ?_;show Wc Tryz.prog ⟨16,50,none⟩ _ _ _ _ _;refine zy ?_;refine ZBY rfl rfl rfl rfl rfl Bod.h rfl rfl (ZCr hl hF hL hLib hPow) fun h1 hE=>?_;refine zy ?_;refine ZBY rfl rfl rfl rfl rfl Bod.h rfl rfl (ZH6 (ZAU.ext (R:=TtlR) (fun x _=>x) hl hE) hF hL) fun h2 hE2=>?_;replace hE:=hE.trans hE2;clear hE2;refine zy ?_;refine ZAB rfl rfl rfl rfl (A_ff (fun q=>q rfl) (ZDe rfl rfl)) ?_;refine zy ?_;refine ZAB rfl rfl rfl rfl (A_ff (fun q=>q rfl) (ZFT rfl rfl)) ?_;refine zy ?_;refine ZAb rfl rfl rfl rfl rfl Bod.h rfl rfl (ZE2 hs (hLib.ext hE) (hPow.ext hE) (hErr.ext hE)) ?_
 rintro _ h3 ⟨⟨a1,c1,rfl,hA⟩,hE3⟩;replace hE:=hE.trans hE3;clear hE3;refine zy ?_;refine ZAb rfl rfl rfl rfl rfl Bod.h rfl rfl (ZHF hs) ?_;rintro _ h4 ⟨⟨a2,c2,rfl,hB⟩,hE4⟩;replace hE:=hE.trans hE4;replace hA:=ZAU.ext (R:=TtlR) (fun x _=>x) hA hE4;clear hE4;have hr:=ZG5 s;generalize (ZBI s).1=L at *;generalize (ZBI s).2=e at *;refine zy ?_;refine ZAP rfl rfl rfl rfl rfl Bod.h rfl rfl (ZC5 hA hB (show _<_ by omega) (show _<_ by omega)) ?_;rw[decide_eq_true rfl];refine zy ?_;refine ZAB rfl rfl rfl rfl (A_tt rfl (ZCL rfl rfl)) ?_;refine zy ?_;refine ZAP rfl rfl rfl rfl rfl Bod.h rfl rfl (ZFU (hTb.ext hE)) ?_
 refine zy ?_;exact ZAD (ZAE rfl ⟨rfl,hE⟩)
theorem ZKX {s:Byt}(h:(ZBI s).2=0):∀x∈(ZBI s).1,x.Fit:=fun x hx=>by
 obtain⟨⟨a1,a2⟩,⟨b1,b2⟩,t⟩:=(ZDr (ZGc h).1).2 x hx;have:=(ZCw t).2;exact⟨⟨by omega,by omega⟩,⟨by omega,by omega⟩,show _<_ by omega⟩
set_option maxHeartbeats 1000000 in
theorem ZFc {l:List Ttl}{s:Byt}{al:Option Addr}{cl:Nat}{h:Heap}(hl:ZAU 3 TtlR h al l)(hF:∀x∈l,x.Fit)(hL:Len l)(hs:Len s)(hLib:LibAt h)(hPow:PowAt h)(hErr:ErrAt h)(hTb:TabAt spTab h):Sv Tryz.prog 17 [.slice al l.length cl,str s] h (RetP fun v h'=>v=.bool true/\Ext h h'):=by
 refine ZFF fun hw=>?_;refine ZAJ Tryz.func17 rfl (by rw[Tryz.ntmps17];rfl) ?_;show Wc Tryz.prog ⟨17,63,none⟩ _ _ _ _ _;refine zy ?_;refine ZBY rfl rfl rfl rfl rfl Bod.h rfl rfl (ZCr hl hF hL hLib hPow) fun h1 hE=>?_;refine zy ?_;refine ZAB rfl rfl rfl rfl (ZCL rfl rfl) ?_;refine zy ?_;refine Wc.mono (Q:=fun x m' ds' h'=>x=.normal/\ds'=[]/\Ext h h'/\AllK m' [(1,str s)]) ?_ ?_
 ·refine ZIP rfl (fun hb=>?_) (fun hb=>?_)
  rotate_left
  ·refine zy ?_
   exact⟨rfl,rfl,hE,rfl,trivial⟩
  have he:=of_decide_eq_true hb;obtain⟨hb1,hb2⟩:=ZJo he;rw[if_pos he];refine zy ?_;refine ZAb rfl rfl rfl rfl rfl Bod.h rfl rfl (ZE2 (show _<_ by omega) (hLib.ext hE) (hPow.ext hE) (hErr.ext hE)) ?_;unfold ZL7;rw[hb2];rintro _ h3 ⟨⟨a1,c1,rfl,hA⟩,hE3⟩;replace hE:=hE.trans hE3;clear hE3;refine zy ?_;refine ZAB rfl rfl rfl rfl (A_ff (fun q=>q rfl) (ZFT rfl rfl)) ?_;refine zy ?_;refine ZAP rfl rfl rfl rfl rfl Bod.h rfl rfl (ZC5 (ZAU.ext (R:=TtlR) (fun x _=>x) hl hE) hA hL hL) ?_;rw[decide_eq_true rfl];refine zy ?_;refine ZAB rfl rfl rfl rfl (A_ff (by omega) (ZB1 rfl rfl)) ?_;refine zy ?_;exact⟨rfl,rfl,hE,rfl,trivial⟩
 rintro _ m' ds' h2 ⟨rfl,rfl,hE,hall⟩
 show Wc _ _ _ _ _ _ _
 refine Wc.le ?_ (Le.kn hall);clear hall hl hF;refine zy ?_;refine ZAb rfl rfl rfl rfl rfl Bod.h rfl rfl (ZE2 hs (hLib.ext hE) (hPow.ext hE) (hErr.ext hE)) ?_;rintro _ h3 ⟨⟨a1,c1,rfl,hA⟩,hE3⟩;replace hE:=hE.trans hE3;clear hE3;have hr:=ZG5 s
 by_cases he:(ZBI s).2=0
 rotate_left
 ·rw[ZIo he]
  refine zy ?_;refine ZAB rfl rfl rfl rfl (A_tt he (ZFT rfl rfl)) ?_;refine zy ?_;refine ZAB rfl rfl rfl rfl (A_tt rfl (ZCL rfl rfl)) ?_;refine zy ?_;refine ZAP rfl rfl rfl rfl rfl Bod.h rfl rfl (ZFU (hTb.ext hE)) ?_;refine zy ?_;exact ZAD (ZAE rfl ⟨rfl,hE⟩)
 obtain⟨k1,k2,-⟩:=ZGc he;have hft:=ZKX he;generalize (ZBI s).1=L at *;generalize (ZBI s).2=e at *;refine zy ?_;refine ZAB rfl rfl rfl rfl (A_ff (fun q=>q he) (ZFT rfl rfl)) ?_;refine zy ?_;refine ZBY rfl rfl rfl rfl rfl Bod.h rfl rfl (ZCr hA hft (show _<_ by omega) (hLib.ext hE) (hPow.ext hE)) fun h4 hE4=>?_;replace hE:=hE.trans hE4;clear hE4;rw[if_pos k1,k1,k2];refine zy ?_;refine ZAB rfl rfl rfl rfl (A_tt rfl (ZCL rfl rfl)) ?_;refine zy ?_;refine ZAB rfl rfl rfl rfl (A_tt rfl (ZCs rfl rfl)) ?_;refine zy ?_;refine ZAP rfl rfl rfl rfl rfl Bod.h rfl rfl (ZFU (hTb.ext hE)) ?_;refine zy ?_;exact ZAD (ZAE rfl ⟨rfl,hE⟩)
end Go.Dw
