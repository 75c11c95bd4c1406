/- M4: WorksSames. -/
import Derived.Test.YthlmgoefjmlndaaGreatDoorUG2
import Derived.Test.YthlmgoefjmlndaaGreatDoorUG24
import Derived.Test.YthlmgoefjmlndaaGreatDoorUG23
import Derived.Test.YthlmgoefjmlndaaGreatDoorUG17
import Derived.Test.YthlmgoefjmlndaaGreatDoorUG21
set_option linter.unusedVariables false
set_option linter.unusedSimpArgs false
namespace Go.Dw
open Go Go.Dx Go.Proofs
set_option maxRecDepth 100000
def lnkA (x:WkR):Str:=if x.kind=1 then 35::x.a else x.a
def lnkP (x:WkR)(u v:Str):Prop:=(x.kind=1\/x.kind=2)/\((lnkA x=u/\x.b=v)\/(x.b=u/\lnkA x=v))
instance (x:WkR)(u v:Str):Decidable (lnkP x u v):=by unfold lnkP;infer_instance
def prvP (s:List WkR)(p:List Str):Prop:=p≠[]/\p.Nodup/\chnP (nxtW s) p
structure ZTZ (s:List WkR)(p:List Str)(i:Nat):Prop where
 nd:∀j k (hj:j<i) (hk:k<j) (h:j<p.length),p[k]'(Nat.lt_trans hk h)≠p[j]
 ch:∀j (h0:0<j) (hj:j<i) (h:j<p.length),p[j]∈nxtW s (p[j-1]'(by omega))
theorem ZTZ.all {s:List WkR}{p:List Str}(h:ZTZ s p p.length)(h0:p≠[]):prvP s p:=by
 refine⟨h0,List.pairwise_iff_getElem.2 fun i j hi hj hij=>h.nd j i hj hij hj,fun i x y hx hy=>?_⟩;obtain⟨h1,rfl⟩:=List.getElem?_eq_some_iff.1 hx;obtain⟨h2,rfl⟩:=List.getElem?_eq_some_iff.1 hy;exact h.ch (i+1) (Nat.succ_pos _) h2 h2
noncomputable instance (s:List WkR)(p:List Str):Decidable (prvP s p):=Classical.propDecidable _
def fndP (s:List WkR)(k n:Nat)(u v:Str):Prop:=k=0\/∃x∈s.take n,lnkP x u v
noncomputable instance (s:List WkR)(k n:Nat)(u v:Str):Decidable (fndP s k n u v):=Classical.propDecidable _
theorem ZNl {l:List WkR}{a b:Str}(hc:(chkS l).2=0)(ha:ZCb (ZAi (mrgU ltW l)) a=true)(hb:ZCb (ZAi (mrgU ltW l)) b=true):ZLW l a b=(ZBK (nxtW (ZAi (mrgU ltW l))) a b (nodW (ZAi (mrgU ltW l))).length,0):=by
 unfold ZLW;rw[if_neg (fun q=>q hc),if_neg (fun q=>by rw[ha,hb] at q;simp at q)]
theorem ZTD {s:List WkR}:(ZBu s).length<=(nodW s).length/\∀w∈ZBu s,w.1.length<=(nodW s).length/\w.2.1.length<=(nodW s).length:=by
 have hs:(ZAL s).length<=(nodW s).length:=ZCm ZAR _;refine⟨?_,fun w hw=>?_⟩
 ·unfold ZBu ZBa ZBU
  rw[List.length_map];have h1:=ZKS (((ZAL s).filter fun k=>!ZAy k).map (repW s));rw[List.length_map] at h1;have h2:=List.length_filter_le (fun k=>!ZAy k) (ZAL s);omega
 ·obtain⟨q,-,rfl⟩:=List.mem_map.1 (show w∈(ZBU (repW s) (ZAL s)).map _ from hw)
  unfold ZA6;refine⟨Nat.le_trans (Nat.le_trans (List.length_filter_le _ _) (List.length_filter_le _ _)) hs,?_⟩;simp only[List.length_map];exact Nat.le_trans (Nat.le_trans (List.length_filter_le _ _) (List.length_filter_le _ _)) hs
theorem ZPy {α β:Type}{f:α->List β}{B:Nat}:∀{L:List α},(∀x∈L,(f x).length<=B)->(L.flatMap f).length<=L.length*B
 | [],_=>Nat.zero_le _
 | x::L,h=>by
  rw[List.flatMap_cons,List.length_append,List.length_cons,Nat.succ_mul];have h1:=h x List.mem_cons_self;have h2:=ZPy (L:=L) fun y hy=>h y (List.mem_cons_of_mem _ hy);omega
theorem ZQU {α β:Type}{f:α->List β}{L:List α}{i:Nat}(hi:i<L.length):(L.take (i+1)).flatMap f=(L.take i).flatMap f++f L[i]:=by
 rw[List.take_add_one,List.getElem?_eq_getElem hi,Option.toList_some,List.flatMap_append,List.flatMap_cons,List.flatMap_nil,List.append_nil]
structure PrOK (W:List WkO)(i k:Nat)(PR:List (Str×Nat)):Prop where
 fst:PR.map Prod.fst=(W.take i).flatMap (fun w=>w.1)++((W[i]?.map fun w=>w.1).getD []).take k
 at_:∀e∈PR,∃w,W[e.2]?=some w/\e.1∈w.1
structure NmOK (S:List WkR)(j:Nat)(N:List Str):Prop where
 nd:N.Nodup
 is:∀k,k∈N ↔ ∃x∈S.take j,x.kind=1/\x.a=k
theorem NmOK.skip {S:List WkR}{j:Nat}{N:List Str}{x:WkR}(h:NmOK S j N)(ht:S.take (j+1)=S.take j++[x])(hx:x.kind≠1):NmOK S (j+1) N:=⟨h.nd,fun k=>by
 rw[h.is,ht]
 constructor
 ·rintro⟨y,hy,q⟩;exact⟨y,List.mem_append_left _ hy,q⟩
 ·rintro⟨y,hy,q1,q2⟩
  rcases List.mem_append.1 hy with hy|hy
  ·exact⟨y,hy,q1,q2⟩
  ·rw[List.mem_singleton.1 hy] at q1;exact absurd q1 hx⟩
theorem NmOK.same {S:List WkR}{j:Nat}{N:List Str}{x:WkR}(h:NmOK S j N)(ht:S.take (j+1)=S.take j++[x])(hx:x.a∈N):NmOK S (j+1) N:=⟨h.nd,fun k=>by
 rw[ht]
 constructor
 ·intro hk
  obtain⟨y,hy,q⟩:=(h.is k).1 hk;exact⟨y,List.mem_append_left _ hy,q⟩
 ·rintro⟨y,hy,q1,q2⟩
  rcases List.mem_append.1 hy with hy|hy
  ·exact (h.is k).2 ⟨y,hy,q1,q2⟩
  ·rw[List.mem_singleton.1 hy] at q2;rw[<-q2];exact hx⟩
theorem NmOK.add {S:List WkR}{j:Nat}{N:List Str}{x:WkR}(h:NmOK S j N)(ht:S.take (j+1)=S.take j++[x])(h1:x.kind=1)(hx:x.a ∉ N):NmOK S (j+1) (N++[x.a]):=⟨by
 rw[List.nodup_append];exact⟨h.nd,by simp,fun a ha b hb e=>hx (by rw[List.mem_singleton] at hb;rw[<-hb,<-e];exact ha)⟩,fun k=>by
 rw[ht,List.mem_append,List.mem_singleton,h.is]
 constructor
 ·rintro (⟨y,hy,q⟩|rfl)
  ·exact⟨y,List.mem_append_left _ hy,q⟩
  ·exact⟨x,by simp,h1,rfl⟩
 ·rintro⟨y,hy,q1,q2⟩
  rcases List.mem_append.1 hy with hy|hy
  ·exact .inl ⟨y,hy,q1,q2⟩
  ·rw[List.mem_singleton.1 hy] at q2;exact .inr q2.symm⟩
theorem ZOx {s:List WkR}(hg:∀x∈s,ZAr x=0){k:Str}:(35::k)∈nodW s ↔ ∃x∈s,x.kind=1/\x.a=k:=by
 constructor
 ·intro h
  rcases ZFB hg h with q|⟨x,hx,h1,e⟩
  ·have:=ZDu q
   simp[ZAy] at this
  ·exact⟨x,hx,h1,(List.cons.inj e).2.symm⟩
 ·rintro⟨x,hx,h1,rfl⟩
  unfold nodW;refine List.mem_append_left _ (List.mem_append_left _ (ZEP.2 ⟨tieI x,?_,.inl rfl⟩));unfold edgW;exact List.mem_append_left _ (List.mem_map.2 ⟨x,ZDX.2 ⟨hx,by simp[h1]⟩,rfl⟩)
theorem ZJZ {s:List WkR}{k:Str}:ZCb s k=true ↔ k∈nodW s/\ZAy k=false:=by
 unfold ZCb ZAy;simp
theorem ZPC {S:List WkR}(hg:∀x∈S,ZAr x=0){x:WkR}(hx:x∈S)(h:x.kind=2\/x.kind=3\/x.kind=4):ZCb S x.a=true :=
 (ZMi hg _).1 (List.mem_flatMap.2 ⟨x,hx,List.mem_append_left _ (by rcases h with h|h|h <;> simp[namA,h])⟩)
theorem ZNa {S:List WkR}(hg:∀x∈S,ZAr x=0){x:WkR}(hx:x∈S)(h:x.kind=2\/x.kind=3\/x.kind=1):ZCb S x.b=true :=
 (ZMi hg _).1 (List.mem_flatMap.2 ⟨x,hx,List.mem_append_right _ (by rcases h with h|h|h <;> simp[namB,h])⟩)
set_option maxHeartbeats 16000000 in
theorem ZH0 {ad:Option Addr}{cap:Nat}{l:List WkR}{x y:Int}{h:Heap}(hR:SrcK rowW 6 h ad l)(hn:ad=none->l=[]/\cap=0)(hf:∀x∈l,x.Fit)(hlen:Len l)(hL:WkLib h)(hx:0<=x/\x<256)(hy:0<=y/\y<256) :
  Sv Tryz.prog 6 [.slice ad l.length cap,.agg ⟨[.int .u8 x,.int .u8 y]⟩] h (RetP fun v h'=>v=.bool true/\Ext h h'):=by
 refine ZAG Tryz.func6 rfl (by rw[Tryz.ntmps6];rfl) ?_;show Wc Tryz.prog ⟨6,312,none⟩ _ _ _ _ _;refine zy ?_;refine ZBZ rfl rfl rfl fun h1 hE1 hW1 hg1 hn1=>?_;generalize h.nx=b3 at hg1 ⊢;refine zy ?_;refine ZAJ rfl rfl rfl rfl rfl Bod.h rfl rfl (ZMt (hR.ext hE1) hn hf hlen (hL.ext hE1)) ?_;rintro _ h2 ⟨hWk,hE12⟩;have hE2:=hE1.trans hE12;have hg2:=hE12.get hg1
 rcases hWk with ⟨hc,rfl⟩|⟨hc,va,rfl,hWA⟩
 ·refine zy ?_
  refine ZAJ rfl rfl rfl rfl rfl Bod.h rfl rfl (ZGM (hR.ext hE2) hn hf hlen (hL.ext hE2)) ?_;rintro _ h3 ⟨⟨aS,nS,cS,aFo,nFo,cFo,rfl,-,-⟩,hE23⟩;have hE3:=hE2.trans hE23;generalize (chkS l).2=e at *;refine zy ?_;refine ZAA rfl rfl rfl rfl (A_tt hc (ZBT rfl rfl)) ?_;refine zy ?_;refine ZAA rfl rfl rfl rfl (A_tt rfl (ZAY rfl rfl)) ?_;refine zy ?_;refine ZAA rfl rfl rfl rfl (A_tt rfl (ZAY rfl rfl)) ?_;refine zy ?_;refine ZAW rfl rfl rfl rfl rfl Bod.h rfl rfl (ZEE (hL.ext hE3)) fun h6 hE6=>?_;refine zy ?_;exact ZAE (ZAF rfl ⟨rfl,hE3.trans hE6⟩)
 have hll:=ZCz hc;have hcg:=ZEx hc;have hSl:(ZAi (mrgU ltW l)).length<=200:=Nat.le_trans (ZJC l) hll;have hsg:∀x∈ZAi (mrgU ltW l),ZAr x=0:=fun x hx=>hcg x (ZFs hx);have hsmn:=fun (a b:Str)=>ZNl (l:=l) (a:=a) (b:=b) hc;have hnd:=ZL6 (ZAi (mrgU ltW l));have hne:=ZOp hsg;obtain⟨aW,cW,rfl,hWR⟩:=hWA;refine zy ?_;refine ZAJ rfl rfl rfl rfl rfl Bod.h rfl rfl (ZGM (hR.ext hE2) hn hf hlen (hL.ext hE2)) ?_;rintro _ h3 ⟨⟨aS,nS,cS,aFo,nFo,cFo,rfl,hcB,-⟩,hE23⟩;have hE3:=hE2.trans hE23;have hg3:=hE23.get hg2;rw[hc];obtain⟨rfl,-,hSS,-⟩:=hcB hc;have hR3:=hR.ext hE3;have hL3:=hL.ext hE3;replace hWR:ZAt 3 ZMY h3 aW _:=ZAt.ext (fun hr hE=>hr.ext hE) hWR hE23
 have hsame:=fun (a b:Str) (h:Heap) (hR:SrcK rowW 6 h ad l) (hL:WkLib h) (hla:Len a) (hlb:Len b)=>ZQB (a:=a) (b:=b) hR hn hf hlen hL hla hlb;clear hcB hcg hg1 hg2 hE23 hE12 hE2 hE1;generalize ZAi (mrgU ltW l)=S at *;obtain⟨hWl,hWn⟩:=ZTD (s:=S);obtain⟨W,hWe⟩:∃W,W=ZBu S:=⟨_,rfl⟩;have hroot:=fun k (hk:k∈nodW S) (hh:ZAy k=true)=>ZKE hsg hk hh;rw[<-hWe] at hWl hWn hWR ⊢;have hap:∀{i j:Nat} {w u:WkO},W[i]?=some w->W[j]?=some u->∀{k:Str},((k∈w.1/\k∈u.1)\/(k∈w.2.1/\k∈u.2.1))->i=j:=fun hi hj _ h=>ZHn (s:=S) (by rw[<-hWe];exact hi) (by rw[<-hWe];exact hj) h;have hwn:∀{i:Nat} {w:WkO},W[i]?=some w->w.1.Pairwise ltB/\w.1≠[]:=fun hi=>ZMQ (s:=S) (by rw[<-hWe];exact hi)
 have hwf:∀{i:Nat} {w u:WkO},W[i]?=some w->W[i+1]?=some u->∀(hw:0<w.1.length) (hu:0<u.1.length),ltB w.1[0] u.1[0]:=fun hi hj hw hu=>ZLs (s:=S) (by rw[<-hWe];exact hi) (by rw[<-hWe];exact hj) hw hu;have hwc:∀{i j:Nat} {w u:WkO},W[i]?=some w->W[j]?=some u->∀{a b:Str},a∈w.1->b∈u.1->(Conn S a b ↔ i=j):=fun hi hj _ _ ha hb=>ZNv (s:=S) (by rw[<-hWe];exact hi) (by rw[<-hWe];exact hj) ha hb
 have hwa:∀k,ZCb S k=true->k∈W.flatMap fun w=>w.1:=fun k hk=>by
  obtain⟨h1,h2⟩:=ZJZ.1 hk;obtain⟨i,w,hi,hm⟩:=ZOq h1 h2;rw[<-hWe] at hi;exact List.mem_flatMap.2 ⟨w,List.mem_of_getElem? hi,hm⟩
 have hwi:∀{i:Nat} {w:WkO} {k:Str},W[i]?=some w->k∈w.1->ZCb S k=true:=fun hi hk=>by
  rw[hWe] at hi;obtain⟨q,-,e⟩:=ZB9 hi;rw[e] at hk;obtain⟨h1,h2,-⟩:=ZDn.1 hk;exact ZJZ.2 ⟨h1,h2⟩
 have hct:∀N:List Str,N.Nodup->(∀k,k∈N ↔ ∃x∈S,x.kind=1/\x.a=k)->(W.flatMap fun w=>w.2.1).length=N.length:=fun N hN hm=>by
  rw[hWe];exact ZLO hroot hN fun k=>by rw[hm,ZOx hsg]
 have hnlen:∀i,i<=W.length->((W.take i).flatMap fun w=>w.1).length<=1400*1400/\((W.take i).flatMap fun w=>w.2.1).length<=1400*1400:=fun i hi=>by
  have h1:=ZPy (f:=fun w:WkO=>w.1) (B:=1400) (L:=W.take i) fun w hw=>Nat.le_trans (hWn w (List.mem_of_mem_take hw)).1 (by omega);have h2:=ZPy (f:=fun w:WkO=>w.2.1) (B:=1400) (L:=W.take i) fun w hw=>Nat.le_trans (hWn w (List.mem_of_mem_take hw)).2 (by omega);rw[List.length_take] at h1 h2;have h3:min i W.length*1400<=1400*1400:=Nat.mul_le_mul_right _ (by omega);omega
 have hwn2:∀w∈W,w.1.length<=1400/\w.2.1.length<=1400:=fun w hw=>⟨Nat.le_trans (hWn w hw).1 (by omega),Nat.le_trans (hWn w hw).2 (by omega)⟩;replace hWl:W.length<=1400:=by omega
 clear hWe hWn hroot;refine ZBh fun hw3=>?_;refine zy ?_;refine ZAA rfl rfl rfl rfl (A_ff (fun q=>q rfl) (ZBT rfl rfl)) ?_;refine zy ?_;refine ZAA rfl rfl rfl rfl (A_ff (fun q=>q rfl) (ZBT rfl rfl)) ?_;refine zy ?_;refine ZAP (fun (st:Nat×Value×Value×List (Str×Nat)) m ds h'=>ds=[]/\Ext h3 h'/\st.1<=W.length/\PrOK W st.1 0 st.2.2.2/\Own h3 h' [slI h3 st.2.1 9 1 ((st.2.2.2.map Prod.fst).map str) st.2.2.2.length,slI h3 st.2.2.1 3 1 (st.2.2.2.map fun e=>i64 (e.2:Nat)) st.2.2.2.length]/\AllK m [(0,.slice ad l.length cap),(3,.pointer (some ⟨b3,0,none⟩)),(5,.slice aW W.length cW),(7,.slice aS S.length cS),(10,st.2.1),(11,st.2.2.1),(12,i64 (((W.take st.1).flatMap fun w=>w.2.1).length:Nat)),(13,i64 (st.1:Nat))]) (fun st=>W.length-st.1) (0,.slice none 0 0,.slice none 0 0,[]) ?_ ?_
 ·exact⟨rfl,Ext.refl _,Nat.zero_le _,⟨by simp,fun e he=>nomatch he⟩,((Own.nil h3 h3).nilSl _ _).nilSl _ _,rfl,rfl,rfl,rfl,rfl,rfl,rfl,rfl,trivial⟩
 rintro⟨i,va,vo,PR⟩ m ds h4 ⟨rfl,hE4,hi,hPR,hO4,hall⟩;refine Wc.le ?_ (Le.kn hall);clear hall;simp only at hi hPR hO4 ⊢;obtain⟨hl1,hl2⟩:=hnlen i hi;refine zy ?_;refine ZAK rfl rfl rfl rfl (ZAV rfl rfl) (fun hil=>?_) (fun hil=>?_)
 ·have hi':i<W.length:=by omega
  obtain⟨bW,oW,oaW,rfl,row,hrow0,an,cn,ai,ci,er,hnm0,hit0⟩:=hWR i hi';have hwi':W[i]?=some W[i]:=List.getElem?_eq_getElem hi';obtain⟨hwup,hwne⟩:=hwn hwi';obtain⟨hw1,hw2⟩:=hwn2 _ (List.getElem_mem hi');have htn:=ZQU (f:=fun w:WkO=>w.1) hi';have hti:=ZQU (f:=fun w:WkO=>w.2.1) hi';have hwf0:=fun (u:WkO) (hi0:0<i) (hu:W[i-1]?=some u)=>hwf (i:=i-1) hu (by rw[Nat.sub_add_cancel hi0];exact hwi');have hapi:=fun (j:Nat) (u:WkO) (hj:W[j]?=some u)=>@hap i j W[i] u hwi' hj;subst er;generalize W[i]=w at *;have hrow:=hE4.row hrow0;have hwl0:0<w.1.length:=List.length_pos_iff.2 hwne;have hc0:ZAc h4 bW (oW+i*3+0)=some (.slice an w.1.length cn):=ZAT (k:=0) hrow rfl
  have hnm:=hnm0.ext hE4;obtain⟨bn,on,oan,ean,hcn0⟩:=hnm 0 hwl0;subst ean;obtain⟨u0,hu0⟩:∃u0,u0=w.1[0]:=⟨_,rfl⟩;rw[<-hu0] at hcn0;refine zy ?_;refine Wc.mono (Q:=fun z m' ds' h'=>z=.normal/\ds'=[]/\h4=h'/\AllK m' [(0,.slice ad l.length cap),(3,.pointer (some ⟨b3,0,none⟩)),(5,.slice (some ⟨bW,oW,oaW⟩) W.length cW),(7,.slice aS S.length cS),(10,va),(11,vo),(12,i64 (((W.take i).flatMap fun w=>w.2.1).length:Nat)),(13,i64 (i:Nat)),(95,.bool false)]) ?_ ?_
  ·rcases Nat.eq_zero_or_pos i with hi0|hi0
   ·skip
    refine ZAS hmix [0,0,3,7,15,31,63,127,255,511,1023,2047,2047,6143,16383,32767,65535,131071,262143,524287,1048575,2097151,2097151,8388607,16777215,33554431,67108863,134217727,2097151,2097151,538968063,1881145343,4028628991,8323596287,16913530879,34093400063,68719476735,137438953471,274877906943] [0,1,2,3,4,5,6,7,8,9,10,11,12,13,14,15,16,17,18,19,20,21,22,23,24,25,26,27,28,29,30,31,32,33,34,35,36,37,38] none [] (by kernel_rfl) (by kernel_rfl) ?_;refine z_m ?_;refine z_m ?_;refine ZAC rfl rfl rfl rfl rfl (fun _=>A_ix (k:=i) Und.h Tsz.h rfl rfl hi') ?_;refine z_f ?_;refine z_l ?_;refine z_c ?_;refine ZAC rfl rfl rfl rfl rfl (fun _=>A_ff (by omega) (ZAY rfl rfl)) ?_;refine z_m ?_;refine g_m ?_
    first|refine ZAb rfl rfl rfl rfl ?_|refine ZAC rfl rfl rfl rfl rfl (fun _=>A_ff (by omega) (ZBG rfl rfl)) ?_
    refine g_m ?_;refine g_m ?_;refine g_m ?_;refine g_u ?_;refine z_o ?_;refine g_f ?_;refine g_l ?_;refine g_c ?_;refine z_o ?_;refine g_p ?_;refine g_m ?_;refine g_m ?_;refine g_m ?_;refine z_o ?_;refine g_f ?_;refine g_l ?_;refine z_o ?_;refine g_l ?_;refine g_m ?_;refine g_m ?_;refine g_u ?_;refine z_o ?_;refine g_f ?_;refine g_l ?_;refine z_o ?_;refine g_l ?_;refine z_o ?_;refine g_p ?_;refine z_p ?_;refine ZAU (ZAD rfl) nb' ?_;exact⟨rfl,rfl,rfl,rfl,rfl,rfl,rfl,rfl,rfl,rfl,rfl,rfl,trivial⟩
   ·have hp1:i-1<W.length:=by omega
    obtain⟨bW',oW',oaW',eW',row',hrow0',an',cn',ai',ci',er',hnm0',-⟩:=hWR (i-1) hp1;cases eW';subst er';have hpi:W[i-1]?=some W[i-1]:=List.getElem?_eq_getElem hp1;have hpn:=(hwn hpi).2;have hlt0:=hwf0 _ hi0 hpi;obtain⟨p,hpE⟩:∃p,p=W[i-1]:=⟨_,rfl⟩;rw[<-hpE] at hpn hlt0 hrow0' hnm0';have hpl0:0<p.1.length:=List.length_pos_iff.2 hpn;have hrow':=hE4.row hrow0';have hp0:ZAc h4 bW (oW+(i-1)*3+0)=some (.slice an' p.1.length cn'):=ZAT (k:=0) hrow' rfl;obtain⟨bp,op,oap,eap,hcp0⟩:=(hnm0'.ext hE4) 0 hpl0;subst eap;have hlt:ltB p.1[0] u0:=by rw[hu0];exact hlt0 hpl0 hwl0
    generalize p.1[0]=p0 at *;refine ZAS hmix [0,0,3,7,15,31,63,127,255,511,1023,2047,2047,6143,16383,32767,65535,131071,262143,524287,1048575,2097151,2097151,8388607,16777215,33554431,67108863,134217727,2097151,2097151,538968063,1881145343,4028628991,8323596287,16913530879,34093400063,68719476735,137438953471,274877906943] [0,1,2,3,4,5,6,7,8,9,10,11,12,13,14,15,16,17,18,19,20,21,22,23,24,25,26,27,28,29,30,31,32,33,34,35,36,37,38] none [] (by kernel_rfl) (by kernel_rfl) ?_;refine z_m ?_;refine z_m ?_;refine ZAC rfl rfl rfl rfl rfl (fun _=>A_ix (k:=i) Und.h Tsz.h rfl rfl hi') ?_;refine z_f ?_;refine z_l ?_;refine z_c ?_;refine ZAC rfl rfl rfl rfl rfl (fun _=>A_ff (by omega) (ZAY rfl rfl)) ?_;refine z_m ?_;refine g_m ?_
    first|refine ZAb rfl rfl rfl rfl ?_|refine ZAC rfl rfl rfl rfl rfl (fun _=>A_tt (by omega) (ZBG rfl rfl)) ?_
    refine g_m ?_;refine g_m ?_;refine g_m ?_;refine g_u ?_
    first|refine ZAb rfl rfl rfl rfl ?_|refine ZAC rfl rfl rfl rfl rfl (fun _=>ZAN (k:=i-1) Und.h Tsz.h rfl rfl (by omega) (by omega)) ?_
    refine g_f ?_;refine g_l ?_;refine g_c ?_
    first|refine ZAb rfl rfl rfl rfl ?_|refine ZAC rfl rfl rfl rfl rfl (fun _=>A_tt (by omega) (ZBG rfl rfl)) ?_
    refine g_p ?_;refine g_m ?_;refine g_m ?_;refine g_m ?_
    first|refine ZAb rfl rfl rfl rfl ?_|refine ZAC rfl rfl rfl rfl rfl (fun _=>A_ix (k:=i) Und.h Tsz.h rfl rfl hi') ?_
    refine g_f ?_;refine g_l ?_
    first|refine ZAb rfl rfl rfl rfl ?_|refine ZAC rfl rfl rfl rfl rfl (fun _=>A_ix (k:=0) Und.h Tsz.h rfl rfl hwl0) ?_
    refine g_l ?_;refine g_m ?_;refine g_m ?_;refine g_u ?_
    first|refine ZAb rfl rfl rfl rfl ?_|refine ZAC rfl rfl rfl rfl rfl (fun _=>ZAN (k:=i-1) Und.h Tsz.h rfl rfl (by omega) (by omega)) ?_
    refine g_f ?_;refine g_l ?_
    first|refine ZAb rfl rfl rfl rfl ?_|refine ZAC rfl rfl rfl rfl rfl (fun _=>A_ix (k:=0) Und.h Tsz.h rfl rfl hpl0) ?_
    refine g_l ?_
    first|refine ZAb rfl rfl rfl rfl ?_|refine ZAC rfl rfl rfl rfl rfl (fun _=>A_ff (fun q=>q hlt) (ZMm rfl rfl)) ?_
    refine g_p ?_;refine z_p ?_;refine ZAU (ZAD rfl) nb' ?_;exact⟨rfl,rfl,rfl,rfl,rfl,rfl,rfl,rfl,rfl,rfl,rfl,rfl,trivial⟩
  rintro _ m _ _ ⟨rfl,rfl,rfl,hall⟩
  show Wc _ _ _ _ _ _ _
  refine Wc.le ?_ (Le.kn hall);clear hall;refine zy ?_;refine ZAP (fun (st:Nat×Value×Value×List (Str×Nat)) m ds h'=>ds=[]/\Ext h3 h'/\st.1<=w.1.length/\PrOK W i st.1 st.2.2.2/\Own h3 h' [slI h3 st.2.1 9 1 ((st.2.2.2.map Prod.fst).map str) st.2.2.2.length,slI h3 st.2.2.1 3 1 (st.2.2.2.map fun e=>i64 (e.2:Nat)) st.2.2.2.length]/\AllK m [(0,.slice ad l.length cap),(3,.pointer (some ⟨b3,0,none⟩)),(5,.slice (some ⟨bW,oW,oaW⟩) W.length cW),(7,.slice aS S.length cS),(10,st.2.1),(11,st.2.2.1),(12,i64 (((W.take i).flatMap fun w=>w.2.1).length:Nat)),(13,i64 (i:Nat)),(14,i64 (st.1:Nat))]) (fun st=>w.1.length-st.1) (0,va,vo,PR) ?_ ?_
  ·exact⟨rfl,hE4,Nat.zero_le _,hPR,hO4,rfl,rfl,rfl,rfl,rfl,rfl,rfl,rfl,rfl,trivial⟩
  clear hPR hO4 hcn0 hnm hc0 hrow hE4;rintro⟨k,va,vo,PR⟩ m ds h4 ⟨rfl,hE4,hk,hPR,hO4,hall⟩;refine Wc.le ?_ (Le.kn hall);clear hall;simp only at hk hPR hO4 ⊢;have hrow:=hE4.row hrow0;have hc0:ZAc h4 bW (oW+i*3+0)=some (.slice (some ⟨bn,on,oan⟩) w.1.length cn):=ZAT (k:=0) hrow rfl;have hc1:ZAc h4 bW (oW+i*3+1)=some (.slice ai w.2.1.length ci):=ZAT (k:=1) hrow rfl;have hfst:=hPR.fst;rw[hwi'] at hfst;simp only[Option.map_some,Option.getD_some] at hfst;have hPRl:PR.length<=2000000:=by
   have:=congrArg List.length hfst;rw[List.length_map,List.length_append,List.length_take] at this;omega
  refine zy ?_;refine ZAA rfl rfl rfl rfl (A_ix (k:=i) Und.h Tsz.h rfl rfl hi') ?_;refine zy ?_;refine ZAK rfl rfl rfl rfl (ZAV rfl rfl) (fun hkl=>?_) (fun hkl=>?_)
  ·have hk':k<w.1.length:=by omega
   have hnm:=hnm0.ext hE4;obtain⟨bn',on',oan',ean,hck⟩:=hnm k hk';cases ean;obtain⟨y,hy⟩:∃y,y=w.1[k]:=⟨_,rfl⟩;rw[<-hy] at hck;have hyw:y∈w.1:=by rw[hy];exact List.getElem_mem hk'
   have hyno:y ∉ PR.map Prod.fst:=fun q=>by
    rw[hfst] at q
    rcases List.mem_append.1 q with q|q
    ·obtain⟨u,hu,hyu⟩:=List.mem_flatMap.1 q
     obtain⟨j,hj,rfl⟩:=List.getElem_of_mem hu;rw[List.length_take] at hj;rw[List.getElem_take] at hyu;have:=hapi j W[j] (List.getElem?_eq_getElem (by omega)) (.inl ⟨hyw,hyu⟩);omega
    ·obtain⟨j,hj,e⟩:=List.getElem_of_mem q
     rw[List.length_take] at hj;rw[List.getElem_take] at e;have:=List.pairwise_iff_getElem.1 hwup j k (by omega) hk' (by omega);rw[e,<-hy] at this;exact ZAR.irr _ this
   obtain⟨aA,eA,hlA,hAA⟩:=ZAB.list (enc:=str) (show ZAB h3 h4 va 9 1 ((PR.map Prod.fst).map str) PR.length from hO4.p1);subst eA;have hhas:=ZFD (cap:=(PR.map Prod.fst).length) (k:=y) hAA (show _<_ by rw[<-hlA];omega);rw[decide_eq_false hyno] at hhas;refine zy ?_;refine Wc.mono (Q:=fun z m' ds' h'=>z=.normal/\ds'=[]/\h4=h'/\AllK m' [(0,.slice ad l.length cap),(3,.pointer (some ⟨b3,0,none⟩)),(5,.slice (some ⟨bW,oW,oaW⟩) W.length cW),(7,.slice aS S.length cS),(10,.slice aA (PR.map Prod.fst).length (PR.map Prod.fst).length),(11,vo),(12,i64 (((W.take i).flatMap fun w=>w.2.1).length:Nat)),(13,i64 (i:Nat)),(14,i64 (k:Nat)),(139,.bool false)]) ?_ ?_
   ·rcases Nat.eq_zero_or_pos k with hk0|hk0
    ·skip
     refine ZAS hmix [0,0,0,6,14,30,0,126,254,511,1023,2047,4095,8191,16383,16383,65535,131071,262143,16383,1048575,2097151,16383,16383,12599295,29376511,62930943,16383,134234111,532692991,1069563903,2147483647,4294967295,8589934591] [0,1,2,3,4,5,6,7,8] (some 9) [([10,11,12,13,14,15,16,17,18,19,20,21,22,23,24,25,26,27,28,29,30,31,32,33],none)] (by kernel_rfl) (by kernel_rfl) ?_;refine z_m ?_;refine z_m ?_;refine z_m ?_;refine ZAC rfl rfl rfl rfl rfl (fun _=>A_ix (k:=i) Und.h Tsz.h rfl rfl hi') ?_;refine z_f ?_;refine z_l ?_;refine z_m ?_;refine ZAC rfl rfl rfl rfl rfl (fun _=>A_ix (k:=k) Und.h Tsz.h rfl rfl hk') ?_;refine z_l ?_
     refine ZAM [0,1,2,3,4,5,6,7,8] (by kernel_rfl) rfl (ZAD rfl) rfl nb (dF (dF (dF (dF (dF (dF (dF (dF (dF nF))))))))) (ZAe rfl rfl rfl rfl rfl Bod.h hhas ?_);refine z_m ?_;refine g_m ?_
     first|refine ZAb rfl rfl rfl rfl ?_|refine ZAC rfl rfl rfl rfl rfl (fun _=>A_ff (by omega) (ZBG rfl rfl)) ?_
     refine g_m ?_;refine g_m ?_;refine g_m ?_;refine z_o ?_;refine g_f ?_;refine g_l ?_;refine g_m ?_;refine z_o ?_;refine g_l ?_;refine g_m ?_;refine g_m ?_;refine z_o ?_;refine g_f ?_;refine g_l ?_;refine g_m ?_;refine g_u ?_;refine z_o ?_;refine g_l ?_;refine z_o ?_;refine g_p ?_;refine z_p ?_;refine ZAU (ZAD rfl) nb' ?_;exact⟨rfl,rfl,rfl,rfl,rfl,rfl,rfl,rfl,rfl,rfl,rfl,rfl,rfl,trivial⟩
    ·have hk1:k-1<w.1.length:=by omega
     obtain⟨bn',on',oan',ean,hcp⟩:=hnm (k-1) hk1;cases ean;have hlt:ltB (w.1[k-1]) y:=by rw[hy];exact List.pairwise_iff_getElem.1 hwup (k-1) k hk1 hk' (by omega)
     generalize w.1[k-1]=z0 at *;refine ZAS hmix [0,0,0,6,14,30,0,126,254,511,1023,2047,4095,8191,16383,16383,65535,131071,262143,16383,1048575,2097151,16383,16383,12599295,29376511,62930943,16383,134234111,532692991,1069563903,2147483647,4294967295,8589934591] [0,1,2,3,4,5,6,7,8] (some 9) [([10,11,12,13,14,15,16,17,18,19,20,21,22,23,24,25,26,27,28,29,30,31,32,33],none)] (by kernel_rfl) (by kernel_rfl) ?_;refine z_m ?_;refine z_m ?_;refine z_m ?_;refine ZAC rfl rfl rfl rfl rfl (fun _=>A_ix (k:=i) Und.h Tsz.h rfl rfl hi') ?_;refine z_f ?_;refine z_l ?_;refine z_m ?_;refine ZAC rfl rfl rfl rfl rfl (fun _=>A_ix (k:=k) Und.h Tsz.h rfl rfl hk') ?_;refine z_l ?_
     refine ZAM [0,1,2,3,4,5,6,7,8] (by kernel_rfl) rfl (ZAD rfl) rfl nb (dF (dF (dF (dF (dF (dF (dF (dF (dF nF))))))))) (ZAe rfl rfl rfl rfl rfl Bod.h hhas ?_);refine z_m ?_;refine g_m ?_
     first|refine ZAb rfl rfl rfl rfl ?_|refine ZAC rfl rfl rfl rfl rfl (fun _=>A_tt (by omega) (ZBG rfl rfl)) ?_
     refine g_m ?_;refine g_m ?_;refine g_m ?_
     first|refine ZAb rfl rfl rfl rfl ?_|refine ZAC rfl rfl rfl rfl rfl (fun _=>A_ix (k:=i) Und.h Tsz.h rfl rfl hi') ?_
     refine g_f ?_;refine g_l ?_;refine g_m ?_
     first|refine ZAb rfl rfl rfl rfl ?_|refine ZAC rfl rfl rfl rfl rfl (fun _=>A_ix (k:=k) Und.h Tsz.h rfl rfl hk') ?_
     refine g_l ?_;refine g_m ?_;refine g_m ?_
     first|refine ZAb rfl rfl rfl rfl ?_|refine ZAC rfl rfl rfl rfl rfl (fun _=>A_ix (k:=i) Und.h Tsz.h rfl rfl hi') ?_
     refine g_f ?_;refine g_l ?_;refine g_m ?_;refine g_u ?_
     first|refine ZAb rfl rfl rfl rfl ?_|refine ZAC rfl rfl rfl rfl rfl (fun _=>ZAN (k:=k-1) Und.h Tsz.h rfl rfl (by omega) (by omega)) ?_
     refine g_l ?_
     first|refine ZAb rfl rfl rfl rfl ?_|refine ZAC rfl rfl rfl rfl rfl (fun _=>A_ff (fun q=>q hlt) (ZMm rfl rfl)) ?_
     refine g_p ?_;refine z_p ?_;refine ZAU (ZAD rfl) nb' ?_;exact⟨rfl,rfl,rfl,rfl,rfl,rfl,rfl,rfl,rfl,rfl,rfl,rfl,rfl,trivial⟩
   rintro _ m _ _ ⟨rfl,rfl,rfl,hall⟩
   show Wc _ _ _ _ _ _ _
   refine Wc.le ?_ (Le.kn hall);clear hall;refine zy ?_;refine ZAA rfl rfl rfl rfl (A_ix (k:=i) Und.h Tsz.h rfl rfl hi') ?_;refine zy ?_;refine ZAA rfl rfl rfl rfl (A_ix (k:=k) Und.h Tsz.h rfl rfl hk') ?_;refine zy ?_;refine ZBj rfl rfl Und.h Tsz.h Zr.h rfl rfl rfl rfl rfl fun h5 hE5 hW5 hg5 hn5=>?_;refine zy ?_;refine ZAz (k:=1) (l:=[str y]) hw3 (hE4.trans hE5) rfl rfl rfl rfl rfl Und.h inferInstance rfl rfl (hO4.ext hE5) (ZA8 Und.h (by intro k;simp) (ZAa hg5 rfl)) rfl rfl (by omega) (by omega) fun v6 h6 hW6 hO6 hE6=>?_;refine zy ?_;refine ZBj rfl rfl Und.h Tsz.h Zr.h rfl rfl rfl rfl rfl fun h7 hE7 hW7 hg7 hn7=>?_
   refine zy ?_;refine ZAz (k:=1) (l:=[i64 (i:Nat)]) hw3 (hE6.trans hE7) rfl rfl rfl rfl rfl Und.h inferInstance rfl rfl ((hO6.ext hE7).up2) (ZA8 Und.h (by intro k;simp) (ZAa hg7 rfl)) rfl rfl (by omega) (by omega) fun v8 h8 hW8 hO8 hE8=>?_;refine zy ?_;refine⟨(k+1,v6,v8,PR++[(y,i)]),(by show w.1.length-(k+1)<w.1.length-k;omega),rfl,hE8,hk',⟨?_,fun e he=>?_⟩,?_,rfl,rfl,rfl,rfl,rfl,rfl,rfl,rfl,rfl,trivial⟩
   ·rw[hwi',List.map_append,hfst]
    simp only[Option.map_some,Option.getD_some];rw[List.take_add_one,List.getElem?_eq_getElem hk',<-hy,List.append_assoc]
    rfl
   ·rcases List.mem_append.1 he with he|he
    ·exact hPR.at_ e he
    ·rw[List.mem_singleton.1 he]
     exact⟨w,hwi',hyw⟩
   ·simp only[List.map_append,List.map_cons,List.map_nil,List.length_append,List.length_singleton]
    exact hO8.up2
  have hkE:k=w.1.length:=by omega
  have hPR2:PrOK W (i+1) 0 PR:=⟨by rw[hfst,htn,hkE,List.take_length,List.take_zero,List.append_nil],hPR.at_⟩;clear hPR hfst hkl hk;refine zy ?_;refine ZAP (fun (q:Nat) m ds h'=>ds=[]/\h4=h'/\q<=w.2.1.length/\AllK m [(0,.slice ad l.length cap),(3,.pointer (some ⟨b3,0,none⟩)),(5,.slice (some ⟨bW,oW,oaW⟩) W.length cW),(7,.slice aS S.length cS),(10,va),(11,vo),(12,i64 ((((W.take i).flatMap fun w=>w.2.1).length+q:Nat):Int)),(13,i64 (i:Nat)),(15,i64 (q:Nat))]) (fun q=>w.2.1.length-q) 0 ?_ ?_
  ·exact⟨rfl,rfl,Nat.zero_le _,rfl,rfl,rfl,rfl,rfl,rfl,rfl,rfl,rfl,trivial⟩
  rintro q m ds h5 ⟨rfl,rfl,hq,hall⟩;refine Wc.le ?_ (Le.kn hall);clear hall;refine zy ?_;refine ZAA rfl rfl rfl rfl (A_ix (k:=i) Und.h Tsz.h rfl rfl hi') ?_;refine zy ?_;refine ZAK rfl rfl rfl rfl (ZAV rfl rfl) (fun hql=>?_) (fun hql=>?_)
  ·have hq':q<w.2.1.length:=by omega
   obtain⟨bi,oi,oai,eai,hcq⟩:=(hit0.ext hE4) q hq';subst eai;obtain⟨y,hy⟩:∃y,y=w.2.1[q]:=⟨_,rfl⟩;rw[<-hy] at hcq;have hyw:y∈w.2.1:=by rw[hy];exact List.getElem_mem hq'
   refine zy ?_;refine ZAP (fun (n:Nat) m ds h'=>ds=[]/\h4=h'/\n<=i/\AllK m [(0,.slice ad l.length cap),(3,.pointer (some ⟨b3,0,none⟩)),(5,.slice (some ⟨bW,oW,oaW⟩) W.length cW),(7,.slice aS S.length cS),(10,va),(11,vo),(12,i64 ((((W.take i).flatMap fun w=>w.2.1).length+q:Nat):Int)),(13,i64 (i:Nat)),(15,i64 (q:Nat)),(16,i64 (n:Nat))]) (fun n=>i-n) 0 ?_ ?_
   ·exact⟨rfl,rfl,Nat.zero_le _,rfl,rfl,rfl,rfl,rfl,rfl,rfl,rfl,rfl,rfl,trivial⟩
   rintro n m ds h5 ⟨rfl,rfl,hn',hall⟩;refine Wc.le ?_ (Le.kn hall);clear hall;refine zy ?_;refine ZAK rfl rfl rfl rfl (ZAV rfl rfl) (fun hnl=>?_) (fun hnl=>?_)
   ·have hni:n<i:=by omega
    have hnW:n<W.length:=by omega
    obtain⟨bW',oW',oaW',eW',row',hrow0',an',cn',ai',ci',er',-,hit0'⟩:=hWR n hnW;cases eW';subst er'
    have hno:y ∉ W[n].2.1:=fun hm=>by
     have:=hapi n W[n] (List.getElem?_eq_getElem hnW) (.inr ⟨hyw,hm⟩);omega
    have hul:=(hwn2 _ (List.getElem_mem hnW)).2;generalize W[n]=u at *;have hrow':=hE4.row hrow0';have hd1:ZAc h4 bW (oW+n*3+1)=some (.slice ai' u.2.1.length ci'):=ZAT (k:=1) hrow' rfl;have hhas:=ZFD (cap:=ci') (k:=y) (hit0'.ext hE4) (show _<_ by omega);rw[decide_eq_false hno] at hhas;refine zy ?_;refine ZAS hmix [0,0,3,7,15,0,0,96,224,480,0,2016,4064,8191] [0,1,2,3,4,5,6,7,8,9,10,11,12] (some 13) [([],none)] (by kernel_rfl) (by kernel_rfl) ?_;refine z_m ?_;refine z_m ?_;refine ZAC rfl rfl rfl rfl rfl (fun _=>A_ix (k:=n) Und.h Tsz.h rfl rfl hnW) ?_;refine z_f ?_;refine z_l ?_;refine z_m ?_;refine z_m ?_;refine ZAC rfl rfl rfl rfl rfl (fun _=>A_ix (k:=i) Und.h Tsz.h rfl rfl hi') ?_;refine z_f ?_;refine z_l ?_;refine z_m ?_;refine ZAC rfl rfl rfl rfl rfl (fun _=>A_ix (k:=q) Und.h Tsz.h rfl rfl hq') ?_;refine z_l ?_
    refine ZAM [0,1,2,3,4,5,6,7,8,9,10,11,12] (by kernel_rfl) rfl (ZAD rfl) rfl nb (dF (dF (dF (dF (dF (dF (dF (dF (dF (dF (dF (dF (dF nF))))))))))))) (ZAe rfl rfl rfl rfl rfl Bod.h hhas ?_);refine ZAU (ZAD rfl) nb' ?_;refine zy ?_;exact⟨n+1,(by show i-(n+1)<i-n;omega),rfl,rfl,hni,rfl,rfl,rfl,rfl,rfl,rfl,rfl,rfl,rfl,rfl,trivial⟩
   ·refine zy ?_
    exact⟨q+1,(by show w.2.1.length-(q+1)<w.2.1.length-q;omega),rfl,rfl,hq',rfl,rfl,rfl,rfl,rfl,rfl,rfl,rfl,rfl,trivial⟩
  have hqE:q=w.2.1.length:=by omega
  refine zy ?_;refine⟨(i+1,va,vo,PR),(by show W.length-(i+1)<W.length-i;omega),rfl,hE4,hi',hPR2,hO4,rfl,rfl,rfl,rfl,rfl,rfl,?_,rfl,trivial⟩;rw[hti,List.length_append,hqE]
  rfl
 have hiE:i=W.length:=by omega
 subst hiE;rw[List.take_length] at hl1 hl2 ⊢;have hfst:=hPR.fst;rw[List.take_length,List.take_zero,List.append_nil] at hfst;have hat:=hPR.at_;have hPRl:PR.length<=2000000:=by
  have:=congrArg List.length hfst;rw[List.length_map] at this;omega
 obtain⟨aA,eA,hlA,-⟩:=ZAB.list (enc:=str) (show ZAB h3 h4 va 9 1 ((PR.map Prod.fst).map str) PR.length from hO4.p1);subst eA;have hmem:∀k,ZCb S k=true->k∈PR.map Prod.fst:=fun k hk=>by rw[hfst];exact hwa k hk
 refine zy ?_;refine ZAP (fun (st:Nat×Value×List Str) m ds h'=>ds=[]/\Ext h3 h'/\st.1<=S.length/\NmOK S st.1 st.2.2/\Own h3 h' [slI h3 st.2.1 9 1 (st.2.2.map str) st.2.2.length,slI h3 (.slice aA (PR.map Prod.fst).length (PR.map Prod.fst).length) 9 1 ((PR.map Prod.fst).map str) PR.length,slI h3 vo 3 1 (PR.map fun e=>i64 (e.2:Nat)) PR.length]/\AllK m [(0,.slice ad l.length cap),(3,.pointer (some ⟨b3,0,none⟩)),(5,.slice aW W.length cW),(7,.slice aS S.length cS),(10,.slice aA (PR.map Prod.fst).length (PR.map Prod.fst).length),(11,vo),(12,i64 ((W.flatMap fun w=>w.2.1).length:Nat)),(17,st.2.1),(18,i64 (st.1:Nat))]) (fun st=>S.length-st.1) (0,.slice none 0 0,[]) ?_ ?_
 ·exact⟨rfl,hE4,Nat.zero_le _,⟨.nil,fun k=>by simp⟩,hO4.nilSl _ _,rfl,rfl,rfl,rfl,rfl,rfl,rfl,rfl,rfl,trivial⟩
 clear hO4 hE4 hPR hil hi;rintro⟨j,vn,N⟩ m ds h4 ⟨rfl,hE4,hj,hN,hO4,hall⟩;refine Wc.le ?_ (Le.kn hall);clear hall;simp only at hj hN hO4 ⊢;have hAA:ZAu str h4 aA (PR.map Prod.fst):=by
  obtain⟨a',e',-,hA'⟩:=ZAB.list (enc:=str) (show ZAB h3 h4 (.slice aA (PR.map Prod.fst).length (PR.map Prod.fst).length) 9 1 ((PR.map Prod.fst).map str) PR.length from hO4.p2);cases e';exact hA'
 have hNl:N.length<=200:=by
  have h1:=ZBE hN.nd (m:=(S.take j).map WkR.a) fun k hk=>by
   obtain⟨x,hx,-,e⟩:=(hN.is k).1 hk;exact List.mem_map.2 ⟨x,hx,e⟩
  rw[List.length_map,List.length_take] at h1;omega
 have hhasA:=fun (k:Str) (hk:ZCb S k=true)=>by
  have:=ZFD (cap:=(PR.map Prod.fst).length) (k:=k) hAA (show _<_ by rw[<-hlA];omega);rw[decide_eq_true (hmem k hk)] at this;exact this
 refine zy ?_;refine ZAK rfl rfl rfl rfl (ZAV rfl rfl) (fun hjl=>?_) (fun hjl=>?_)
 ·have hj':j<S.length:=by omega
  have hxm:=List.getElem_mem hj';have hxg:=hsg _ hxm;have hxA:=fun q=>ZPC hsg hxm q;have hxB:=fun q=>ZNa hsg hxm q;have htk:S.take (j+1)=S.take j++[S[j]]:=by rw[List.take_add_one,List.getElem?_eq_getElem hj'];rfl
  obtain⟨bS,oS,oaS,rfl,row,hrow0,hx'⟩:=hSS.1 j hj';have hrow:=hE4.row hrow0;have ex:row=rowW S[j]:=hx';clear hx' hrow0;generalize S[j]=x at *;subst ex;have hc3:ZAc h4 bS (oS+j*6+3)=some (i64 x.kind):=ZAT (k:=3) hrow rfl;have hc4:ZAc h4 bS (oS+j*6+4)=some (str x.a):=ZAT (k:=4) hrow rfl;have hc5:ZAc h4 bS (oS+j*6+5)=some (str x.b):=ZAT (k:=5) hrow rfl;refine zy ?_;refine ZAA rfl rfl rfl rfl (A_ix Und.h Tsz.h rfl rfl) ?_;refine zy ?_
  by_cases k2:x.kind=2
  ·refine zy ?_
   refine ZAA rfl rfl rfl rfl (A_tt k2 (ZAY rfl rfl)) ?_;refine zy ?_;refine ZAA rfl rfl rfl rfl (A_ix Und.h Tsz.h rfl rfl) ?_;refine zy ?_;refine ZAO rfl rfl rfl rfl rfl Bod.h rfl rfl (hhasA _ (hxA (.inl k2))) ?_;refine zy ?_;refine ZAA rfl rfl rfl rfl (A_tt k2 (ZAY rfl rfl)) ?_;refine zy ?_;refine ZAA rfl rfl rfl rfl (A_ix Und.h Tsz.h rfl rfl) ?_;refine zy ?_;refine ZAO rfl rfl rfl rfl rfl Bod.h rfl rfl (hhasA _ (hxB (.inl k2))) ?_;refine zy ?_;refine ZAA rfl rfl rfl rfl (A_ff (by omega) (ZAY rfl rfl)) ?_;refine zy ?_;exact⟨(j+1,vn,N),(by show S.length-(j+1)<S.length-j;omega),rfl,hE4,hj',hN.skip htk (by omega),hO4,rfl,rfl,rfl,rfl,rfl,rfl,rfl,rfl,rfl,trivial⟩
  by_cases k3:x.kind=3
  ·refine zy ?_
   refine ZAA rfl rfl rfl rfl (A_ff k2 (ZAY rfl rfl)) ?_;refine zy ?_;refine ZAA rfl rfl rfl rfl (A_tt k3 (ZAY rfl rfl)) ?_;refine zy ?_;refine ZAA rfl rfl rfl rfl (A_ix Und.h Tsz.h rfl rfl) ?_;refine zy ?_;refine ZAO rfl rfl rfl rfl rfl Bod.h rfl rfl (hhasA _ (hxA (.inr (.inl k3)))) ?_;refine zy ?_;refine ZAA rfl rfl rfl rfl (A_ff k2 (ZAY rfl rfl)) ?_;refine zy ?_;refine ZAA rfl rfl rfl rfl (A_tt k3 (ZAY rfl rfl)) ?_;refine zy ?_;refine ZAA rfl rfl rfl rfl (A_ix Und.h Tsz.h rfl rfl) ?_;refine zy ?_;refine ZAO rfl rfl rfl rfl rfl Bod.h rfl rfl (hhasA _ (hxB (.inr (.inl k3)))) ?_;refine zy ?_;refine ZAA rfl rfl rfl rfl (A_ff (by omega) (ZAY rfl rfl)) ?_
   refine zy ?_;exact⟨(j+1,vn,N),(by show S.length-(j+1)<S.length-j;omega),rfl,hE4,hj',hN.skip htk (by omega),hO4,rfl,rfl,rfl,rfl,rfl,rfl,rfl,rfl,rfl,trivial⟩
  by_cases k4:x.kind=4
  ·have k1:x.kind≠1:=by omega
   refine zy ?_;refine ZAA rfl rfl rfl rfl (A_ff k2 (ZAY rfl rfl)) ?_;refine zy ?_;refine ZAA rfl rfl rfl rfl (A_ff k3 (ZAY rfl rfl)) ?_;refine zy ?_;refine ZAA rfl rfl rfl rfl (A_tt k4 (ZAY rfl rfl)) ?_;refine zy ?_;refine ZAA rfl rfl rfl rfl (A_ix Und.h Tsz.h rfl rfl) ?_;refine zy ?_;refine ZAO rfl rfl rfl rfl rfl Bod.h rfl rfl (hhasA _ (hxA (.inr (.inr k4)))) ?_;refine zy ?_;refine ZAA rfl rfl rfl rfl (A_ff k2 (ZAY rfl rfl)) ?_;refine zy ?_;refine ZAA rfl rfl rfl rfl (A_ff k3 (ZAY rfl rfl)) ?_;refine zy ?_;refine ZAA rfl rfl rfl rfl (A_ff k1 (ZAY rfl rfl)) ?_;refine zy ?_;refine ZAA rfl rfl rfl rfl (A_ff (k1) (ZAY rfl rfl)) ?_
   refine zy ?_;exact⟨(j+1,vn,N),(by show S.length-(j+1)<S.length-j;omega),rfl,hE4,hj',hN.skip htk (k1),hO4,rfl,rfl,rfl,rfl,rfl,rfl,rfl,rfl,rfl,trivial⟩
  by_cases k1:x.kind=1
  rotate_left
  ·refine zy ?_
   refine ZAA rfl rfl rfl rfl (A_ff k2 (ZAY rfl rfl)) ?_;refine zy ?_;refine ZAA rfl rfl rfl rfl (A_ff k3 (ZAY rfl rfl)) ?_;refine zy ?_;refine ZAA rfl rfl rfl rfl (A_ff k4 (ZAY rfl rfl)) ?_;refine zy ?_;refine ZAA rfl rfl rfl rfl (A_ff k2 (ZAY rfl rfl)) ?_;refine zy ?_;refine ZAA rfl rfl rfl rfl (A_ff k3 (ZAY rfl rfl)) ?_;refine zy ?_;refine ZAA rfl rfl rfl rfl (A_ff k1 (ZAY rfl rfl)) ?_;refine zy ?_;refine ZAA rfl rfl rfl rfl (A_ff (k1) (ZAY rfl rfl)) ?_;refine zy ?_;exact⟨(j+1,vn,N),(by show S.length-(j+1)<S.length-j;omega),rfl,hE4,hj',hN.skip htk (k1),hO4,rfl,rfl,rfl,rfl,rfl,rfl,rfl,rfl,rfl,trivial⟩
  refine zy ?_;refine ZAA rfl rfl rfl rfl (A_ff k2 (ZAY rfl rfl)) ?_;refine zy ?_;refine ZAA rfl rfl rfl rfl (A_ff k3 (ZAY rfl rfl)) ?_;refine zy ?_;refine ZAA rfl rfl rfl rfl (A_ff k4 (ZAY rfl rfl)) ?_;refine zy ?_;refine ZAA rfl rfl rfl rfl (A_ff k2 (ZAY rfl rfl)) ?_;refine zy ?_;refine ZAA rfl rfl rfl rfl (A_ff k3 (ZAY rfl rfl)) ?_;refine zy ?_;refine ZAA rfl rfl rfl rfl (A_tt k1 (ZAY rfl rfl)) ?_;refine zy ?_;refine ZAA rfl rfl rfl rfl (A_ix Und.h Tsz.h rfl rfl) ?_;refine zy ?_;refine ZAO rfl rfl rfl rfl rfl Bod.h rfl rfl (hhasA _ (hxB (.inr (.inr k1)))) ?_;refine zy ?_;refine ZAA rfl rfl rfl rfl (A_tt k1 (ZAY rfl rfl)) ?_
  refine zy ?_;refine ZAA rfl rfl rfl rfl (A_ix Und.h Tsz.h rfl rfl) ?_;refine zy ?_;obtain⟨aN,eN,hlN,hNN⟩:=ZAB.list (enc:=str) (show ZAB h3 h4 vn 9 1 (N.map str) N.length from hO4.p1);subst eN;have hhasN:=ZFD (cap:=N.length) (k:=x.a) hNN (show _<_ by omega)
  by_cases hxN:x.a∈N
  ·rw[decide_eq_true hxN] at hhasN
   refine ZAO rfl rfl rfl rfl rfl Bod.h rfl rfl hhasN ?_;refine zy ?_;exact⟨(j+1,.slice aN N.length N.length,N),(by show S.length-(j+1)<S.length-j;omega),rfl,hE4,hj',hN.same htk hxN,hO4,rfl,rfl,rfl,rfl,rfl,rfl,rfl,rfl,rfl,trivial⟩
  rw[decide_eq_false hxN] at hhasN;refine ZAO rfl rfl rfl rfl rfl Bod.h rfl rfl hhasN ?_;refine zy ?_;refine ZAA rfl rfl rfl rfl (A_ix Und.h Tsz.h rfl rfl) ?_;refine zy ?_;refine ZBj rfl rfl Und.h Tsz.h Zr.h rfl rfl rfl rfl rfl fun h5 hE5 hW5 hg5 hn5=>?_;refine zy ?_;refine ZAz (k:=1) (l:=[str x.a]) hw3 (hE4.trans hE5) rfl rfl rfl rfl rfl Und.h inferInstance rfl rfl (hO4.ext hE5) (ZA8 Und.h (by intro k;simp) (ZAa hg5 rfl)) rfl rfl (by omega) (by omega) fun v6 h6 hW6 hO6 hE6=>?_;refine zy ?_;refine⟨(j+1,v6,N++[x.a]),(by show S.length-(j+1)<S.length-j;omega),rfl,hE6,hj',hN.add htk k1 hxN,?_,rfl,rfl,rfl,rfl,rfl,rfl,rfl,rfl,rfl,trivial⟩
  simp only[List.map_append,List.map_cons,List.map_nil,List.length_append,List.length_singleton];exact hO6
 have hjE:j=S.length:=by omega
 subst hjE;have hNc:=hct N hN.nd fun k=>by rw[hN.is,List.take_length]
 obtain⟨aN,eN,-,-⟩:=ZAB.list (enc:=str) (show ZAB h3 h4 vn 9 1 (N.map str) N.length from hO4.p1);subst eN;have hme:(PR.map fun e=>i64 (e.2:Nat))=(PR.map Prod.snd).map fun n:Nat=>i64 (n:Nat):=by rw[List.map_map];rfl
 have hFo:ZAB h3 h4 vo 3 1 ((PR.map Prod.snd).map fun n:Nat=>i64 (n:Nat)) PR.length:=by rw[<-hme];exact hO4.p3
 obtain⟨aO,eO,-,hOO⟩:=ZAB.list (enc:=fun n:Nat=>i64 (n:Nat)) hFo;subst eO;have hg4:=hE4.get hg3;have hR4:=hR3.ext hE4;have hL4:=hL3.ext hE4;have hE34:=hE3.trans hE4;rw[hNc];refine zy ?_;refine ZAA rfl rfl rfl rfl (A_ff (fun q=>q rfl) (ZBT rfl rfl)) ?_;refine zy ?_
 by_cases hP0:PR.length=0
 ·refine ZAA rfl rfl rfl rfl (A_tt (by rw[<-hlA,hP0];rfl) (ZAY rfl rfl)) ?_
  refine zy ?_;refine ZAW rfl rfl rfl rfl rfl Bod.h rfl rfl (ZEE hL4) fun h6 hE6=>?_;refine zy ?_;exact ZAE (ZAF rfl ⟨rfl,hE34.trans hE6⟩)
 have hlO:(PR.map Prod.snd).length=PR.length:=by rw[List.length_map]
 have hlA2:(PR.map Prod.fst).length=PR.length:=hlA.symm;refine ZAA rfl rfl rfl rfl (A_ff (by rw[hlA2];omega) (ZAY rfl rfl)) ?_;obtain⟨xn,rfl⟩:=Int.eq_ofNat_of_zero_le hx.1;obtain⟨yn,rfl⟩:=Int.eq_ofNat_of_zero_le hy.1;have hwx:IntKind.i64.wrap (xn:Int)=(xn:Int):=IntWalk.i64_in _ (by omega);have hwy:IntKind.i64.wrap (yn:Int)=(yn:Int):=IntWalk.i64_in _ (by omega)
 have htm:∀z:Nat,((z:Nat):Int).tmod (((PR.map Prod.fst).length:Nat):Int)=((z % PR.length:Nat):Int):=fun z=>by
  rw[Int.tmod_eq_emod_of_nonneg (Int.natCast_nonneg _),hlA2];exact (Int.natCast_emod z PR.length).symm
 have hbx:ZAc h4 b3 (0+0*1)=some (.int .u8 (xn:Int)):=ZAk hg4 rfl;have hby:ZAc h4 b3 (0+1*1)=some (.int .u8 (yn:Int)):=ZAk hg4 rfl;refine zy ?_;refine ZAS hmix [0,1,3,0,8,31,0,64,192,0,512,1984,63,8191] [0,1,2,3,4,5,6,7,8,9,10,11] (some 12) [([],(some 13)),([],none)] (by kernel_rfl) (by kernel_rfl) ?_;refine ZAC rfl rfl rfl rfl rfl (fun _=>ZEM (k:=0) Und.h Tsz.h rfl rfl rfl (by decide)) ?_;refine z_l ?_;refine ZAC rfl rfl rfl rfl rfl (fun _=>ZBn ⟨_,Und.h⟩ Und.h rfl hwx) ?_;refine z_m ?_;refine z_c ?_;refine ZAC rfl rfl rfl rfl rfl (fun _=>ZTA rfl rfl (by rw[hlA2];omega)) ?_;refine ZAC rfl rfl rfl rfl rfl (fun _=>ZEM (k:=1) Und.h Tsz.h rfl rfl rfl (by decide)) ?_;refine z_l ?_;refine ZAC rfl rfl rfl rfl rfl (fun _=>ZBn ⟨_,Und.h⟩ Und.h rfl hwy) ?_;refine z_m ?_;refine z_c ?_;refine ZAC rfl rfl rfl rfl rfl (fun _=>ZTA rfl rfl (by rw[hlA2];omega)) ?_
 refine ZAM [0,1,2,3,4,5] (by kernel_rfl) rfl (ZAD rfl) rfl nb (kF (kF (kF (kF (kF (kF (dF (dF (dF (dF (dF (dF nF)))))))))))) (ZDr rfl rfl (ZBD rfl) ?_);refine ZAM [0,1,2,3,4,5,6,7,8,9,10,11,12] (by kernel_rfl) rfl (by refine ZA3 (i:=11) rfl rfl rfl rfl rfl (fun _=>ZTA rfl rfl (by rw[hlA2];omega)) rfl ?_;refine t_c 10 ?_;refine t_m 9 ?_;refine ZA3 (i:=8) rfl rfl rfl rfl rfl (fun _=>ZBn ⟨_,Und.h⟩ Und.h rfl hwy) rfl ?_;refine t_l 7 ?_;refine ZA3 (i:=6) rfl rfl rfl rfl rfl (fun _=>ZEM (k:=1) Und.h Tsz.h rfl rfl rfl (by decide)) rfl ?_;exact ZAD rfl) rfl nb (dF (dF (dF (dF (dF (dF nF)))))) (ZDr rfl rfl (ZBD rfl) ?_)
 refine ZAU (ZAD rfl) nb' ?_;rw[htm,htm];have hax:xn % PR.length<PR.length:=Nat.mod_lt _ (Nat.pos_of_ne_zero hP0);have hay:yn % PR.length<PR.length:=Nat.mod_lt _ (Nat.pos_of_ne_zero hP0);generalize xn % PR.length=ia at *;generalize yn % PR.length=ib at *;have hAA:ZAu str h4 aA (PR.map Prod.fst):=by
  obtain⟨a',e',-,hA'⟩:=ZAB.list (enc:=str) (show ZAB h3 h4 (.slice aA (PR.map Prod.fst).length (PR.map Prod.fst).length) 9 1 ((PR.map Prod.fst).map str) PR.length from hO4.p2);cases e';exact hA'
 have hiA:ia<(PR.map Prod.fst).length:=by omega
 have hiB:ib<(PR.map Prod.fst).length:=by omega
 obtain⟨ba,oa,oaa,rfl,hca⟩:=hAA ia hiA;obtain⟨ba',oa',oaa',ea',hcb⟩:=hAA ib hiB;cases ea';rw[List.getElem_map] at hca hcb;obtain⟨wa,hwa1,hwa2⟩:=hat _ (List.getElem_mem hax);obtain⟨wb,hwb1,hwb2⟩:=hat _ (List.getElem_mem hay);have hOa:ia<(PR.map Prod.snd).length:=by omega
 have hOb:ib<(PR.map Prod.snd).length:=by omega
 obtain⟨bo,oo,oao,rfl,hda⟩:=hOO ia hOa;obtain⟨bo',oo',oao',eo',hdb⟩:=hOO ib hOb;cases eo';rw[List.getElem_map] at hda hdb;generalize PR[ia]=ea at *;generalize PR[ib]=eb at *;have hna:=hwi hwa1 hwa2;have hnb:=hwi hwb1 hwb2;have hna1:=(ZJZ.1 hna).1;have hka:=ZE5 hsg hna1;have hkb:=ZE5 hsg (ZJZ.1 hnb).1;have hsm:=hsame ea.1 eb.1 h4 hR4 hL4 (show _<_ by omega) (show _<_ by omega);rw[hsmn _ _ hna hnb] at hsm
 dsimp only at hsm
 have hiff:=(ZQK hne hna1 (b:=eb.1)).trans (hwc hwa1 hwb1 hwa2 hwb2);generalize ZBK (nxtW S) ea.1 eb.1 (nodW S).length=P at *;refine zy ?_;refine ZAS hmix [0,0,0,6,14,0,0,96,224,511,1023,2047,2047,4095,16383] [0,1,2,3,4,5,6,7,8] (some 9) [([10,11,12],(some 13)),([],(some 14)),([],none)] (by kernel_rfl) (by kernel_rfl) ?_;refine z_m ?_;refine z_m ?_;refine z_m ?_;refine ZAC rfl rfl rfl rfl rfl (fun _=>A_ix (k:=ia) Und.h Tsz.h rfl rfl hiA) ?_;refine z_l ?_;refine z_m ?_;refine z_m ?_;refine ZAC rfl rfl rfl rfl rfl (fun _=>A_ix (k:=ib) Und.h Tsz.h rfl rfl hiB) ?_;refine z_l ?_;refine ZAM [0,1,2,3,4,5,6,7,8] (by kernel_rfl) rfl (ZAD rfl) rfl nb (dF (dF (dF (dF (dF (dF (dF (dF (dF nF))))))))) (ZJU rfl rfl rfl rfl rfl Bod.h hsm (fun v7 h7 hv=>?_))
 obtain⟨v8,rfl,hF7,hE7⟩:=hv;obtain⟨aP,rfl,-,-⟩:=ZAB.list (enc:=str) hF7;have hca7:=hE7.cell hca;have hcb7:=hE7.cell hcb;have hda7:=hE7.cell hda;have hdb7:=hE7.cell hdb;refine z_m ?_;refine z_e ?_;refine z_e ?_;refine ZAM [0,1,2,3,4,5,6,7,8,9,10,11] (by kernel_rfl) rfl (ZAD rfl) rfl nb (kF (dF (dF nF))) (ZDr rfl rfl (ZBD rfl) ?_);refine ZAM [0,1,2,3,4,5,6,7,8,9,10,11,12,13] (by kernel_rfl) rfl (by refine t_e 12 ?_;exact ZAD rfl) rfl nb (dF nF) (ZDr rfl rfl (ZBD rfl) ?_);refine ZAU (ZAD rfl) nb' ?_;have hbb:decide ((P.length:Int) > 0)=decide (((ea.2:Nat):Int)=((eb.2:Nat):Int)):=by
  rw[Bool.eq_iff_iff,decide_eq_true_iff,decide_eq_true_iff];have h1:P≠[] ↔ 0<P.length:=List.length_pos_iff.symm
  constructor
  ·intro q
   have:=hiff.1 (h1.2 (by omega));omega
  ·intro q
   have:=h1.1 (hiff.2 (by omega));omega
 refine zy ?_;refine ZAS hmix [0,1,3,7,15,31,7,7,199,455,7,7,3079,7175,16327,32767,65535,131071,262143,524287,1048575] [0,1,2,3,4,5,6,7,8,9,10,11,12,13,14,15,16,17] (some 18) [([19],(some 20)),([],none)] (by kernel_rfl) (by kernel_rfl) ?_;refine z_m ?_;refine ZAC rfl rfl rfl rfl rfl (fun _=>A_tt rfl (ZAY rfl rfl)) ?_;refine z_m ?_;refine g_m ?_;refine g_c ?_
 first|refine ZAb rfl rfl rfl rfl ?_|refine ZAC rfl rfl rfl rfl rfl (fun _=>ZBG rfl rfl) ?_
 refine g_m ?_;refine g_m ?_
 first|refine ZAb rfl rfl rfl rfl ?_|refine ZAC rfl rfl rfl rfl rfl (fun _=>A_ix (k:=ia) Und.h Tsz.h rfl rfl hOa) ?_
 refine g_l ?_;refine g_m ?_;refine g_m ?_
 first|refine ZAb rfl rfl rfl rfl ?_|refine ZAC rfl rfl rfl rfl rfl (fun _=>A_ix (k:=ib) Und.h Tsz.h rfl rfl hOb) ?_
 refine g_l ?_
 first|refine ZAb rfl rfl rfl rfl ?_|refine ZAC rfl rfl rfl rfl rfl (fun _=>ZAY rfl rfl) ?_
 first|refine ZAb rfl rfl rfl rfl ?_|refine ZAC rfl rfl rfl rfl rfl (fun _=>A_tt hbb (ZQE Und.h rfl rfl)) ?_
 refine z_p ?_;refine z_m ?_;refine ZAM [0,1,2,3,4,5,6,7,8,9,10,11,12,13,14,15,16,17] (by kernel_rfl) rfl (ZAD rfl) rfl nb (dF (dF (dF (dF (dF (dF (dF (dF (dF (dF (dF (dF (dF (dF (dF (dF (dF (dF nF)))))))))))))))))) (ZBA rfl rfl rfl rfl rfl Bod.h (ZEE (hL4.ext hE7)) (fun h8 hE8=>?_));have hda8:=hE8.cell hda7;have hdb8:=hE8.cell hdb7;refine z_p ?_;refine ZAM [0,1,2,3,4,5,6,7,8,9,10,11,12,13,14,15,16,17,18,19] (by kernel_rfl) rfl (ZAD rfl) rfl nb (dF nF) (ZDr rfl rfl (ZBD rfl) ?_);refine ZAU (ZAD rfl) nb' ?_;refine zy ?_;exact ZAE (ZAF rfl ⟨rfl,(hE34.trans hE7).trans hE8⟩)
end Go.Dw
