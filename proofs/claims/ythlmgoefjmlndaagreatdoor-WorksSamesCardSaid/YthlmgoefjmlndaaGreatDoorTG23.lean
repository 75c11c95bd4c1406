/- M4: WorksSames. -/
import Derived.Test.YthlmgoefjmlndaaGreatDoorTG2
import Derived.Test.YthlmgoefjmlndaaGreatDoorTG22
import Derived.Test.YthlmgoefjmlndaaGreatDoorTG21
import Derived.Test.YthlmgoefjmlndaaGreatDoorTG17
set_option linter.unusedVariables false
set_option linter.unusedSimpArgs false
namespace Go.Dw
open Go Go.Dx Go.Proofs
set_option maxRecDepth 100000
theorem ZK3 {s:List WkR}{a b:Str}(ha:a∈nodW s):(ZBW (nxtW s) a b (nodW s).length).length<=(nodW s).length+1:=by
 unfold ZBW
 split
 ·rw[List.length_reverse]
  have:=ZHZ (bfsQ (nxtW s) a (nodW s).length) ((bfsQ (nxtW s) a (nodW s).length).length+1) b;have:=ZLe ha (nodW s).length;omega
 ·exact Nat.zero_le _
theorem ZQs {s:List WkR}{a:Str}(h:ZCf s a=true):a∈nodW s:=by
 unfold ZCf at h;rw[Bool.and_eq_true] at h;exact of_decide_eq_true h.1
theorem ZRi {l:List WkR}{a b:Str}:(ZEy l a b).1.length<=10001:=by
 unfold ZEy
 split
 ·exact Nat.zero_le _
 ·rename_i hc
  have hl:=ZCB (Decidable.not_not.1 hc);have h2:(ZAW (mrgU ltW l)).length<=l.length:=ZEA l;have h3:=ZEj (ZAW (mrgU ltW l))
  split
  ·exact Nat.zero_le _
  ·rename_i hn
   have hna:ZCf (ZAW (mrgU ltW l)) a=true:=by
    cases q:ZCf (ZAW (mrgU ltW l)) a with
    | true=>rfl
    | false=>exact absurd (.inl q) hn
   have:=ZK3 (b:=b) (ZQs hna)
   show (ZBW (nxtW (ZAW (mrgU ltW l))) a b (nodW (ZAW (mrgU ltW l))).length).length<=10001
   omega
theorem ZSc {S L:List WkR}(hL:∀x∈L,x∈S)(hS:S.length<=200):∀c∈clsL S L,c.2.length<=10001:=fun c hc=>by
 unfold clsL at hc;obtain⟨x,hx,hc⟩:=List.mem_flatMap.1 hc
 split at hc
 ·rename_i h3
  unfold clF at hc
  split at hc
  ·exact absurd hc List.not_mem_nil
  ·rw[List.mem_singleton.1 hc]
   have:=ZK3 (b:=x.b) (ZJG (hL x hx) h3);have h3:=ZEj S
   show (ZBW (nxtW S) x.a x.b (nodW S).length).length<=10001
   omega
 ·exact absurd hc List.not_mem_nil
set_option maxHeartbeats 1000000 in
theorem ZJY {ad:Option Addr}{cap:Nat}{l:List WkR}{a b:Str}{h:Heap}(hR:SrcK rowW 6 h ad l)(hn:ad=none->l=[]/\cap=0)(hf:∀x∈l,x.Fit)(hlen:Len l)(hL:WkLib h)(hla:Len a)(hlb:Len b) :
  Sv Tryz.prog 9 [.slice ad l.length cap,.agg ⟨[str a,str b]⟩] h (RetP fun v h'=>v=.bool true/\Ext h h'):=by
 refine ZAG Tryz.func9 rfl (by rw[Tryz.ntmps9];rfl) ?_;show Wc Tryz.prog ⟨9,59,none⟩ _ _ _ _ _;refine zy ?_;refine ZBQ rfl rfl rfl fun h1 hE1 hW1 hg1 hn1=>?_;generalize h.nx=b3 at hg1 ⊢;refine zy ?_;refine ZAB rfl rfl rfl rfl (ZDJ (k:=0) Und.h Tsz.h rfl rfl rfl (by decide)) ?_;refine zy ?_;refine ZAB rfl rfl rfl rfl (ZDJ (k:=1) Und.h Tsz.h rfl rfl rfl (by decide)) ?_;refine zy ?_;refine ZAI rfl rfl rfl rfl rfl Bod.h rfl rfl (ZQM (hR.ext hE1) hn hf hlen (hL.ext hE1) hla hlb) ?_;rintro _ h2 ⟨v1,rfl,hF1,hE12⟩;have hsl:(ZEy l a b).1.length<=10001:=ZRi;obtain⟨a1,rfl,-,hl1⟩:=ZAA.list (enc:=str) hF1;have hE2:=hE1.trans hE12
 have hg2:=hE12.get hg1;refine zy ?_;refine ZAB rfl rfl rfl rfl (ZDJ (k:=0) Und.h Tsz.h rfl rfl rfl (by decide)) ?_;refine zy ?_;refine ZAB rfl rfl rfl rfl (ZDJ (k:=1) Und.h Tsz.h rfl rfl rfl (by decide)) ?_;refine zy ?_;refine ZAI rfl rfl rfl rfl rfl Bod.h rfl rfl (ZOM (a:=a) (b:=b) ((hR.ext hE2).1) hf hlen) ?_;rintro _ h3 ⟨v2,rfl,hF2,hE23⟩;obtain⟨a2,rfl,-,hl2⟩:=ZAA.list (enc:=str) hF2;have hE3:=hE2.trans hE23;generalize (ZEy l a b).1=P at *;generalize (ZEy l a b).2=e at *;refine zy ?_;refine ZAR rfl rfl rfl rfl rfl Bod.h rfl rfl (ZD5 (hl1.ext hE23) hl2 (show _<_ by omega)) ?_;refine zy ?_;refine ZAB rfl rfl rfl rfl (A_ff (fun q=>q rfl) (ZBF rfl rfl)) ?_
 refine zy ?_;refine ZAI rfl rfl rfl rfl rfl Bod.h rfl rfl (ZNy (hR.ext hE3) hn hf hlen (hL.ext hE3)) ?_;rintro _ h4 ⟨hC4,hE34⟩;have hE4:=hE3.trans hE34
 rcases hC4 with ⟨hc,rfl⟩|⟨hc,a4,k4,rfl,hC4⟩
 ·refine zy ?_
  refine ZAI rfl rfl rfl rfl rfl Bod.h rfl rfl (ZFa ((hR.ext hE4).1) hf hlen) ?_;rintro _ h5 ⟨⟨-,rfl⟩|⟨hc2,-⟩,hE45⟩
  ·have hE5:=hE4.trans hE45
   refine zy ?_;refine ZAR rfl rfl rfl rfl rfl Bod.h rfl rfl (ZNb (l:=[]) (a:=none) (a':=none) (c:=0) (c':=0) (fun i hi=>absurd hi (Nat.not_lt_zero _)) (fun i hi=>absurd hi (Nat.not_lt_zero _)) (by decide) (fun _ h=>nomatch h)) ?_;refine zy ?_;refine ZAB rfl rfl rfl rfl (A_tt rfl (ZAd rfl rfl)) ?_;refine zy ?_;refine ZAU rfl rfl rfl rfl rfl Bod.h rfl rfl (ZIO (hL.ext hE5)) fun h6 hE6=>?_;refine zy ?_;exact ZAE (ZAF rfl ⟨rfl,hE5.trans hE6⟩)
  ·exact absurd hc2 hc
 ·refine zy ?_
  refine ZAI rfl rfl rfl rfl rfl Bod.h rfl rfl (ZFa ((hR.ext hE4).1) hf hlen) ?_;rintro _ h5 ⟨⟨hc2,-⟩|⟨-,a5,k5,rfl,hC5⟩,hE45⟩
  ·exact absurd hc hc2
  ·have hE5:=hE4.trans hE45
   have hll:=ZCB hc;have hSl:(ZAW (mrgU ltW l)).length<=200:=Nat.le_trans (ZEA l) hll;have hcl:=ZM9 (ZAW (mrgU ltW l)) (ZAW (mrgU ltW l));have hcp:=ZSc (S:=ZAW (mrgU ltW l)) (L:=ZAW (mrgU ltW l)) (fun _ h=>h) hSl;generalize ZAW (mrgU ltW l)=S at *;generalize clsL S S=C at *;refine zy ?_;refine ZAR rfl rfl rfl rfl rfl Bod.h rfl rfl (ZNb (ZAv.ext (fun hr hE=>hr.ext hE) hC4 hE45) hC5 (show _<_ by omega) (fun x hx=>by have:=hcp x hx;show _<_;omega)) ?_;refine zy ?_;refine ZAB rfl rfl rfl rfl (A_tt rfl (ZAd rfl rfl)) ?_;refine zy ?_;refine ZAU rfl rfl rfl rfl rfl Bod.h rfl rfl (ZIO (hL.ext hE5)) fun h6 hE6=>?_
   refine zy ?_;exact ZAE (ZAF rfl ⟨rfl,hE5.trans hE6⟩)
end Go.Dw
