/- R7: contracts: records sorted by their days, of which there is one at most. -/
import Derived.OpenShut
import Derived.Test.YthlmgoefjmlndaaGreatDoorTG2
import Derived.Test.YthlmgoefjmlndaaGreatDoorTG15
import Derived.Test.YthlmgoefjmlndaaGreatDoorTG18
import Derived.Test.YthlmgoefjmlndaaGreatDoorTG19
import Derived.Test.YthlmgoefjmlndaaGreatDoorTG8
set_option linter.unusedVariables false
set_option linter.unusedSimpArgs false
namespace Go.Dw
open Go Go.Dx Go.Proofs
set_option maxRecDepth 100000
theorem ZPx {f:Value}{h:Heap}{a:Option Addr}{n c:Nat}(hn:n<=1):Sv Tryz.prog 245 [.slice a n c,i64 0,i64 (n:Nat),f] h (RetP fun v h'=>v=.tuple ⟨[]⟩/\h'=h):=by
 refine ZAF Tryz.func245 rfl (by rw[Tryz.ntmps245];rfl) ?_;show Wc Tryz.prog ⟨245,53,none⟩ _ _ _ _ _;refine zy ?_;refine ZAO (fun (_:Unit) m ds h'=>ds=[]/\h'=h/\AllK m [(2,i64 (n:Nat)),(8,i64 1)]) (fun _=>0) () ?_ ?_
 ·exact⟨rfl,rfl,rfl,rfl,trivial⟩
 rintro _ m ds h1 ⟨rfl,rfl,hall⟩;refine Wc.le ?_ (Le.kn hall);refine zy ?_;refine zD (A_ff (by omega) (ZAf rfl rfl)) ?_;exact ZCv rfl ⟨rfl,rfl⟩
theorem ZPJ {g:FuncId}{h:Heap}{a:Option Addr}{n c:Nat}(hn:n<=1):Sv Tryz.prog 119 [.slice a n c,.func (.func g) ⟨[]⟩ ⟨[]⟩] h (RetP fun v h'=>v=.tuple ⟨[]⟩/\h'=h):=by
 have hst:Sv Tryz.prog 171 [.slice a n c,i64 (n:Nat),.func (.func g) ⟨[]⟩ ⟨[]⟩] h (RetP fun v h'=>v=.tuple ⟨[]⟩/\h'=h):=by
  refine ZAF Tryz.func171 rfl (by rw[Tryz.ntmps171];rfl) ?_;show Wc Tryz.prog ⟨171,63,none⟩ _ _ _ _ _;refine zy ?_;refine ZAO (fun (_:Unit) m ds h'=>ds=[]/\h=h'/\AllK m [(0,.slice a n c),(1,i64 (n:Nat)),(2,.func (.func g) ⟨[]⟩ ⟨[]⟩),(6,i64 20),(7,i64 0),(8,i64 20)]) (fun _=>0) () ?_ ?_
  ·exact⟨rfl,rfl,rfl,rfl,rfl,rfl,rfl,rfl,trivial⟩
  rintro _ m ds h1 ⟨rfl,rfl,hall⟩;refine Wc.le ?_ (Le.kn hall);refine zy ?_;refine zD (A_ff (by omega) (ZQr rfl rfl)) ?_;refine zV (ZPx hn) ?_;refine ZAO (fun (_:Unit) m ds h'=>ds=[]/\h=h'/\AllK m [(1,i64 (n:Nat)),(6,i64 20)]) (fun _=>0) () ?_ ?_
  ·exact⟨rfl,rfl,rfl,rfl,trivial⟩
  rintro _ m ds h1 ⟨rfl,rfl,hall⟩;refine Wc.le ?_ (Le.kn hall);refine zy ?_;refine zD (A_ff (by omega) (ZAf rfl rfl)) ?_;exact ZCv rfl ⟨rfl,rfl⟩
 refine ZAF Tryz.func119 rfl (by rw[Tryz.ntmps119];rfl) ?_;show Wc Tryz.prog ⟨119,9,none⟩ _ _ _ _ _;refine zy ?_;refine ZBX rfl rfl rfl rfl rfl Bod.h rfl rfl hst ?_;refine zy ?_;exact ZCv rfl ⟨rfl,rfl⟩
theorem ZOj {h0 h:Heap}{v:Value}{l:List WkR}{n:Nat}{g:FuncId}(hF:ZAD h0 h v 44 6 (l.flatMap rowW) n)(h1:l.length<=1) :
  Sv Tryz.prog 119 [v,.func (.func g) ⟨[]⟩ ⟨[]⟩] h (RetP fun r h'=>r=.tuple ⟨[]⟩/\ZAD h0 h' v 44 6 (l.flatMap rowW) n/\Exb (fun c=>ZBB v=some c) h h'):=by
 have hln:n=l.length:=by
  have:=hF.len;rw[ZB7 (enc:=rowW) (k:=6) (fun _=>rfl)] at this;omega
 obtain⟨a,rfl,-,-⟩:=hF.is;exact (ZPJ (by omega)).ret fun v h' ⟨e1,e2⟩=>⟨e1,by subst e2;exact hF,by subst e2;exact Exb.refl _ _⟩
theorem ZSG {α:Type}{lt:α->α->Prop} [DecidableRel lt] [DecidableEq α]:∀{l:List α},l.length<=1->mrgU lt l=l
 | [],_=>rfl
 | [x],_=>rfl
 | _::_::_,h=>by simp at h
end Go.Dw
namespace Go.Dw
open Go Go.Dx Go.Proofs
set_option maxRecDepth 100000
set_option maxHeartbeats 4000000 in
theorem ZRc {a:Option Addr}{cap:Nat}{s:List WkR}{h:Heap}{t:Int}(hR:SrcK rowW 6 h a s)(hup:s.Pairwise ltW)(hls:s.length<=200)(hd:∀x∈s,0<=x.day/\x.day<=80000)(hq:∀k,(plcW s t k).length<=1) :
  Sv Tryz.prog 74 [.slice a s.length cap,i64 t] h (RetP fun v h'=>Ext h h'/\∃bm,v=.map (some bm)/\ZWJ h h' bm s t):=by
 refine ZA5 fun hw=>?_;have hlS:Len s:=by show s.length<_;omega
 refine ZAF Tryz.func74 rfl (by rw[Tryz.ntmps74];rfl) ?_;show Wc Tryz.prog ⟨74,45,none⟩ _ _ _ _ _;refine zy ?_;refine ZAg rfl rfl rfl fun h1 hE1 hW1 hg1 hn1=>?_;have hO1:=(Own.nil h h).newCe hw (Nat.le_refl _) hE1 hg1 (Nat.le_refl _);generalize h.nx=b3 at hO1 hg1 ⊢;refine zy ?_;refine ZCL rfl rfl fun h2 hE2 hW2 hg2 hn2=>?_;have hO2:=hO1.newMap (K:=strK) hW1 hE1.2.1 hE2 hg2 (Nat.le_refl _);replace hE2:=hE1.trans hE2;generalize h1.nx=bm at hO2 hg2 ⊢;refine zy ?_;refine ZAK rfl rfl Zr.h Tsz.h rfl (fun _=>rfl) rfl rfl rfl fun h3 hE3 hW3 hg3 hn3=>?_;have hO3:=hO2.newCe hW2 hE2.2.1 hE3 hg3 (Nat.le_refl _)
 replace hE3:=hE2.trans hE3;generalize h2.nx=b5 at hO3 hg3 ⊢;refine zy ?_;refine ZCA rfl rfl Und.h Tsz.h Zr.h rfl rfl rfl rfl rfl fun h4 hE4 hW4 hg4 hn4=>?_;have hO4:=hO3.newCe hW3 hE3.2.1 hE4 hg4 (Nat.le_refl _);replace hE4:=hE3.trans hE4;generalize h3.nx=bk at hO4 hg4 ⊢;refine zy ?_;refine ZA0 rfl rfl rfl rfl rfl Bod.h rfl rfl ZPI ?_;rintro _ h5 ⟨c1,c2,rfl,hE5,hI5⟩;have hO5':=hO4.join hW4 hE4.2.1 hE5 hI5;replace hE5:=hE4.trans hE5;have hO5:Own h h5 (ZRb h bm b5 []++ZPK b3 bk c1 c2 a s.length cap t):=hO5'.shuf (ceI 0 [] 0 false) [0,1,2,3,4,5] [4,3,0,1,2,5] (by decide) rfl;clear hO5' hI5 hO4 hO3 hO2 hO1 hE1 hE2 hE3 hE4 hg1 hg2 hg3 hg4
 refine zy ?_;refine ZDZ (q:=6) (X:=fun G=>ZRb h bm b5 G++ZPK b3 bk c1 c2 a s.length cap t) (ok:=fun pre G=>ZHU G t pre) (L:=ofK [1,5] s) (enc:=encW) (cs:=rowW) (el:=44) (op:=false) (s0:=[]) rfl rfl Bod.h rfl hw hE5 hO5 (ZHU.nil t) (ZND (c1:=c1) (c2:=c2) (bk:=bk) (cap:=cap) (sp:=none) (op:=false) (ks:=[1,5]) hR hlS (show (2:Nat)<_ by decide) fun st=>⟨by simp[ZPK],by simp[ZPK],by simp[ZPK]⟩) (fun l x h'=>?_) (fun l bn pre x post G h6 R hsp hok hO hE6=>?_) (fun G6 h6 hok6 hO6' hE6=>?_)
 ·refine ZCK ?_
  refine ZAK rfl rfl Zr.h Tsz.h rfl (fun _=>rfl) rfl rfl rfl fun h8 hE8 hW8 hg8 hn8=>?_;exact ZFx ⟨rfl,rfl,rfl,hE8,hg8⟩
 ·obtain⟨hpl,hxs,hxk⟩:=ZMo hsp
  have hgn:h6.get bn=some (.cells (rowW x) 44 false):=hO.p1;have hgt:h6.get b3=some (.cells [i64 t] 3 false):=hO.has (ceI b3 [i64 t] 3 false) (by simp[ZPK]);have hO':=ZPo hO.rot;have hmap:MapB strK h6 bm (kvG G):=hO'.p1;have hg5:h6.get b5=some (.cells [.map (some bm)] 157 false):=hO'.p2;obtain⟨Rr,ht1,ht2⟩:=ZFz rowW 44 6 h x.a G;have hO1:=ht1 _ _ hO';have hadd:=fun v=>hok.add x v rfl;have hrl:(rawG x.a G).length<=200:=by
   rw[hok.raw];exact Nat.le_trans (List.length_filter_le _ _) (by omega)
  generalize hv:(lkp x.a (kvG G)).getD (.slice none 0 0)=v0 at hO1;generalize hr:rawG x.a G=r0 at *;refine zy ?_;refine zD (ZBP strK (k:=x.a) (v:=v0) Und.h Zr.h rfl hmap rfl hv) ?_
  by_cases h5:x.kind=5
  rotate_left
  ·refine zE (A_ff h5 (ZAs rfl rfl)) ?_
   have hpf:plcB t x.a x=false:=decide_eq_false fun q=>h5 q.1;have hok':=hadd v0;rw[hpf,if_neg (by simp),List.append_nil] at hok';have hK:=ht2 h6 _ v0 r0 hO1;refine zy ?_;refine ZAx strK (k:=x.a) (v:=v0) hw hE6 rfl Und.h rfl hK rfl rfl fun h7 hW7 hO7 hE7=>?_;rw[<-ZCi x.a v0 r0 G] at hO7;refine zy ?_;exact⟨rfl,_,hok',(ZKC hO7).unrot,hE7⟩
  refine zD (A_tt h5 (ZAs rfl rfl)) ?_
  by_cases ht:x.day<=t
  rotate_left
  ·refine zE (A_ff ht (ZQr rfl rfl)) ?_
   have hpf:plcB t x.a x=false:=decide_eq_false fun q=>ht q.2.2;have hok':=hadd v0;rw[hpf,if_neg (by simp),List.append_nil] at hok';have hK:=ht2 h6 _ v0 r0 hO1;refine zy ?_;refine ZAx strK (k:=x.a) (v:=v0) hw hE6 rfl Und.h rfl hK rfl rfl fun h7 hW7 hO7 hE7=>?_;rw[<-ZCi x.a v0 r0 G] at hO7;refine zy ?_;exact⟨rfl,_,hok',(ZKC hO7).unrot,hE7⟩
  refine zE (A_tt ht (ZQr rfl rfl)) ?_;have hpt:plcB t x.a x=true:=decide_eq_true ⟨h5,rfl,ht⟩;rw[hpt,if_pos rfl] at hadd;refine zy ?_;refine ZCA rfl rfl Und.h Tsz.h Zr.h rfl rfl rfl rfl rfl fun h7 hE7 hW7 hg7 hn7=>?_;refine zy ?_;refine ZBN (k:=1) (l:=rowW x) hw (hE6.trans hE7) rfl rfl rfl rfl rfl Und.h inferInstance rfl rfl (hO1.ext hE7) (ZBK Und.h (by intro k;simp) (ZAV hg7 rfl)) rfl rfl (by omega) (by omega) fun v8 h8 hW8 hO8 hE8=>?_;have hlen1:(r0++[x]).flatMap rowW=r0.flatMap rowW++rowW x:=by rw[List.flatMap_append,List.flatMap_singleton]
  have hK:=ht2 h8 _ v8 (r0++[x]) (by rw[hlen1,List.length_append];exact hO8);have hgn8:h8.get bn=some (.cells (rowW x) 44 false):=hK.p3;have hg58:h8.get b5=some (.cells [.map (some bm)] 157 false):=hK.p2;refine zy ?_;refine ZAx strK (k:=x.a) (v:=v8) hw hE8 rfl Und.h rfl hK rfl rfl fun h9 hW9 hO9 hE9=>?_;rw[<-ZCi x.a v8 (r0++[x]) G] at hO9;refine zy ?_;exact⟨rfl,_,hadd v8,(ZKC hO9).unrot,hE9⟩
 have hO6:Own h h6 (mapI strK bm (kvG G6)::ceI b5 [.map (some bm)] 157 false::(slG rowW 44 6 h G6++[loI h5.nx .defd])):=by
  have h1:Own h h6 (loI h5.nx .defd::ZRb h bm b5 G6):=hO6'.sub (List.Sublist.cons_cons _ (List.sublist_append_left _ _));exact h1.perm (List.perm_append_comm (l₁:=[_]))
 clear hO6' hO5;generalize h5.nx=r5 at hO6 ⊢
 have hmm:∀k,(ZBn k G6).map Prod.snd=if k∈itmW s then some (plcW s t k) else none:=fun k=>by
  have h1:(ZBn k G6).isSome=decide (k∈itmW s):=hok6.is k;have h2:rawG k G6=plcW s t k:=hok6.raw k;unfold rawG at h2
  cases hl:ZBn k G6 with
  | none =>
   rw[hl] at h1;rw[if_neg (fun q=>by rw[decide_eq_true q] at h1;cases h1)];rfl
  | some p =>
   rw[hl] at h1 h2;rw[if_pos (of_decide_eq_true h1.symm)];exact congrArg some h2
 have hon6:=hok6.once;have hg5:h6.get b5=some (.cells [.map (some bm)] 157 false):=hO6.p2;refine zy ?_;refine ZC5 strK hE6 rfl rfl Und.h rfl hO6 fun h7 hW7 hO7 hE7=>?_;replace hE7:=hE6.trans hE7;generalize h6.nx=rr at hO7 ⊢;clear hg5 hO6 hE6 hok6;refine zy ?_;refine ZAO (fun (st:ZMa×List Str) m ds h'=>ds=[r5].map .coll/\Ext h h'/\Own h h' (itI strK bm rr (kvG G6) st.2::ceI b5 [.map (some bm)] 157 false::(slG rowW 44 6 h st.1++[loI r5 .defd]))/\kvG st.1=kvG G6/\(∀k,(ZBn k st.1).map Prod.snd=if k∈itmW s then some (if k∈st.2 then ZEP s t k else plcW s t k) else none)/\st.2.Nodup/\(∀k∈st.2,k∈itmW s)/\AllK m [(5,.pointer (some ⟨b5,0,none⟩)),(37,.pointer (some ⟨rr,0,none⟩))]) (fun st=>(itmW s).length-st.2.length) (G6,[]) ?_ ?_
 ·exact⟨rfl,hE7,hO7,rfl,fun k=>by rw[hmm];simp,.nil,(fun _ h=>nomatch h),rfl,rfl,trivial⟩
 clear hO7 hE7 hW7 hmm;rintro⟨G,V⟩ m ds h8 ⟨rfl,hE8,hO8,hkv,hlk,hnd,hV,hall⟩;refine Wc.le ?_ (Le.kn hall);clear hall;simp only at hO8 hkv hlk hnd hV ⊢;rw[<-hkv] at hO8;have honG:Once (kvG G):=by rw[hkv];exact hon6
 refine zy ?_;refine ZDv strK hw hE8 rfl rfl rfl honG hO8 (fun hdone=>?_) fun k v h9 hlkv hnk hC hO9 hE9=>?_
 ·have hg5:h8.get b5=some (.cells [.map (some bm)] 157 false):=hO8.p2
  have hOm:Own h h8 ([r5].map (fun r=>loI r .defd)++(mapI strK bm (kvG G)::slG rowW 44 6 h G)):=by
   have h1:Own h h8 (mapI strK bm (kvG G)::ceI b5 [.map (some bm)] 157 false::(slG rowW 44 6 h G++[loI r5 .defd])):=hO8.as (fun hp=>ZG8.mapB strK hp) fun c hc=>.inl hc;have h2:Own h h8 (mapI strK bm (kvG G)::(slG rowW 44 6 h G++[loI r5 .defd])):=h1.sub (List.Sublist.cons_cons _ (List.Sublist.cons _ (List.Sublist.refl _)));exact h2.perm (List.perm_append_comm (l₁:=mapI strK bm (kvG G)::slG rowW 44 6 h G))
  have hcl:ZC4 h h8 [r5]:=hOm.colls;refine zy ?_;refine ZAB (ZM7 hcl.nd hcl.defd rfl ⟨hcl.ext0 hE8 hw,bm,rfl,G,hOm.del,honG,fun k=>?_⟩);rw[hlk]
  by_cases hk:k∈itmW s
  ·rw[if_pos hk,if_pos hk]
   have h1:=hlk k;rw[if_pos hk] at h1
   cases hl:ZBn k G with
   | none=>rw[hl] at h1;cases h1
   | some p=>rw[if_pos (hdone k p.1 (by rw[ZD2,hl];rfl))]
  ·rw[if_neg hk,if_neg hk]
 have hkG:ZBn k G=some (v,plcW s t k)/\k∈itmW s:=by
  rw[ZD2] at hlkv;have h1:=hlk k
  cases hl:ZBn k G with
  | none=>rw[hl] at hlkv;cases hlkv
  | some p =>
   rw[hl] at hlkv h1
   by_cases hk:k∈itmW s
   ·rw[if_pos hk,if_neg hnk] at h1
    obtain⟨p1,p2⟩:=p;simp only[Option.map_some,Option.some.injEq] at hlkv h1;rw[hlkv,h1];exact⟨rfl,hk⟩
   ·rw[if_neg hk] at h1;cases h1
 obtain⟨hlG,hki⟩:=hkG;obtain⟨Rr,ht1,ht2⟩:=ZFz rowW 44 6 h k G;have hO9':Own h h9 ((itI strK bm rr (kvG G) (k::V)::ceI b5 [.map (some bm)] 157 false :: [loI r5 .defd])++slG rowW 44 6 h G):=hO9.perm (List.Perm.cons _ (List.Perm.cons _ List.perm_append_comm));have hO10:=ht1 _ _ hO9';rw[hlkv] at hO10;have hraw:rawG k G=plcW s t k:=by unfold rawG;rw[hlG];rfl
 rw[hraw] at hO10;refine zy ?_;refine ZFv strK rfl rfl rfl hC ?_;refine zy ?_;refine ZBt fun hw9=>?_;have hFv:ZAD h h9 v 44 6 ((plcW s t k).flatMap rowW) (plcW s t k).length:=hO10.p1;have hpl:(plcW s t k).length<=1000000:=by
  have:=ZN2 s t k;omega
 have hpd:∀x∈plcW s t k,0<=x.day/\x.day<=80000:=fun x hx=>hd x (ZES.1 (List.mem_filter.1 hx).1).1;refine zR (ZOj hFv (hq k)) ?_;rintro _ h11 ⟨rfl,hF11,hX11⟩;have hF12:ZAD h h11 v 44 6 ((ZEP s t k).flatMap rowW) (ZEP s t k).length:=by
  rw[show ZEP s t k=plcW s t k from ZSG (hq k)];exact hF11
 have hO11:Own h h11 (slI h v 44 6 ((ZEP s t k).flatMap rowW) (ZEP s t k).length::_):=hO10.put hw9 hE9.2.1 hX11 hF12 fun c hc=>.inl hc;have hE11:Ext h h11:=hO10.grows hX11 hE9 hw;have hO12:=ht2 h11 _ v (ZEP s t k) hO11;have hkvs:kvG (setG k v (ZEP s t k) G)=kvG G:=by
  rw[ZCi]
  rcases ZDg k (kvG G) 0 with ⟨-,g⟩|⟨j,v',-,g,-,e⟩
  ·rw[g] at hlkv;cases hlkv
  ·rw[g] at hlkv;cases hlkv;exact e
 have hlt:V.length+1<=(itmW s).length:=by
  have:=ZB1 (List.nodup_cons.2 ⟨hnk,hnd⟩) (m:=itmW s) fun k' hk'=>by
   rcases List.mem_cons.1 hk' with rfl|hk'
   ·exact hki
   ·exact hV k' hk'
  simpa using this
 refine zy ?_;refine⟨(setG k v (ZEP s t k) G,k::V),(by show (itmW s).length-(V.length+1)<(itmW s).length-V.length;omega),rfl,hE11,?_,hkvs.trans hkv,fun k'=>?_,List.nodup_cons.2 ⟨hnk,hnd⟩,fun k' hk'=>?_,rfl,rfl,trivial⟩
 ·simp only
  rw[<-hkv];exact hO12.perm (List.Perm.cons _ (List.Perm.cons _ List.perm_append_comm))
 ·simp only
  rw[ZDo]
  by_cases e:k'=k
  ·subst e
   rw[if_pos rfl,if_pos hki,if_pos List.mem_cons_self];rfl
  ·rw[if_neg e,hlk]
   by_cases hi:k'∈itmW s
   ·rw[if_pos hi,if_pos hi]
    congr 1
    by_cases hv:k'∈V
    ·rw[if_pos hv,if_pos (List.mem_cons_of_mem _ hv)]
    ·rw[if_neg hv,if_neg (fun q=>by
      rcases List.mem_cons.1 q with q|q
      ·exact e q
      ·exact hv q)]
   ·rw[if_neg hi,if_neg hi]
 ·rcases List.mem_cons.1 hk' with rfl|hk'
  ·exact hki
  ·exact hV k' hk'
end Go.Dw
namespace Go.Dw
open Go Go.Dx Go.Proofs
set_option maxRecDepth 100000
theorem ZKX {a:Option Addr}{cap:Nat}{l:List WkR}{h:Heap}{k:Str}{t:Int}(hR:SrcK rowW 6 h a l)(hn:a=none->l=[]/\cap=0)(hf:∀x∈l,x.Fit)(hlen:Len l)(hL:WkLib h)(hq:∀k,(plcW (ZAd (mrgU ltW l)) t k).length<=1) :
  Sv Tryz.prog 40 [.slice a l.length cap,str k,i64 t] h (RetP fun v h'=>v=.tuple ⟨[str (ZKR l k t).1,i64 (ZKR l k t).2]⟩/\Ext h h'):=by
 have hop:=ZJ3 hR hn hf hlen hL;unfold ZOz at hop;have hcl:=ZGI (l:=l);have hcg:=ZFW (l:=l);unfold ZKR;generalize chkS l=ck at *;refine ZAF Tryz.func40 rfl (by rw[Tryz.ntmps40];rfl) ?_;show Wc Tryz.prog ⟨40,38,none⟩ _ _ _ _ _;refine zy ?_;refine ZA0 rfl rfl rfl rfl rfl Bod.h rfl rfl hop ?_;rintro _ h1 ⟨⟨hc,rfl⟩|⟨hc,aS,af,rfl,hS,-⟩,hE1⟩
 ·refine zy ?_
  refine zD (A_tt hc (ZAo rfl rfl)) ?_;rw[if_pos hc];exact ZAB (ZAC rfl ⟨rfl,hE1⟩)
 rw[if_neg (fun q=>q hc)];have hl2:=hcl hc;replace hcg:=hcg hc;have hup:=ZVj l;have hsl:(ZAd (mrgU ltW l)).length<=200:=Nat.le_trans (ZJs l) hl2;have hsd:∀x∈ZAd (mrgU ltW l),0<=x.day/\x.day<=80000:=fun x hx=>ZUG (hcg x (ZGL hx));clear hcl hcg hop;generalize ZAd (mrgU ltW l)=S at *;generalize ZCB (mrgU ltW l)=F at *;refine zy ?_;refine zD (A_ff (fun q=>q rfl) (ZAo rfl rfl)) ?_;refine zR (ZRc (t:=t) hS hup hsl hsd hq) ?_;rintro _ h2 ⟨hE2,bm,rfl,G,hO,hon,hlk⟩;have hE12:=hE1.trans hE2;have hmp:MapB strK h2 bm (kvG G):=hO.p1;have hlk2:=hlk k;refine zy ?_
 by_cases hk:k∈itmW S
 rotate_left
 ·rw[if_neg hk] at hlk2
  have hno:ZBn k G=none:=by
   cases hl:ZBn k G with
   | none=>rfl
   | some p=>rw[hl] at hlk2;cases hlk2
  rw[if_pos hk];refine zD (ZAX strK (k:=k) (v:=.slice none 0 0) (q:=false) Und.h Zr.h rfl hmp rfl (by rw[ZD2,hno];rfl) (by rw[ZD2,hno];rfl)) ?_;exact ZAB (ZAC rfl ⟨rfl,hE12⟩)
 rw[if_pos hk] at hlk2;rw[if_neg (fun q=>q hk)];obtain⟨v,hl⟩:∃v,ZBn k G=some (v,ZEP S t k):=by
  cases hl:ZBn k G with
  | none=>rw[hl] at hlk2;cases hlk2
  | some p =>
   rw[hl] at hlk2;obtain⟨p1,p2⟩:=p;simp only[Option.map_some,Option.some.injEq] at hlk2;rw[hlk2];exact⟨p1,rfl⟩
 obtain⟨av,ev,hSv,hnv⟩:=ZAD.rowsAt (enc:=rowW) (k:=6) (fun _=>rfl) (show ZAD h1 h2 v 44 6 _ _ from hO.tail.has _ (ZML rowW 44 6 (h0:=h1) hl)) rfl;subst ev;have hspl:Len (ZEP S t k):=by
  have h1:=ZRK hup t k;have h2:=ZN2 S t k
  show (ZEP S t k).length<_
  omega
 refine zD (ZAX strK (k:=k) (v:=.slice av (ZEP S t k).length (ZEP S t k).length) (q:=true) Und.h Zr.h rfl hmp rfl (by rw[ZD2,hl];rfl) (by rw[ZD2,hl];rfl)) ?_;refine zU (ZHe _ _ _ _) ?_
 by_cases ht:t<0\/80000<t
 ·rw[decide_eq_true ht,if_pos ht]
  refine zy ?_;exact ZAB (ZAC rfl ⟨rfl,hE12⟩)
 rw[decide_eq_false ht,if_neg ht];refine zy ?_;refine zW (ZU1 hSv.1 hspl) fun h3 hE3=>?_;refine zy ?_;exact ZAB (ZAC rfl ⟨rfl,hE12.trans hE3⟩)
theorem ZPR (k:Str):(plcW (ZAd (mrgU ltW catL)) 12 k).length<=1:=by
 have h1:((ofK [1,5] catL).filter fun x=>decide (x.kind=5/\x.day<=12)).length=1:=by kernel_rfl
 rw[ZQq,<-h1,plcW,<-List.countP_eq_length_filter,<-List.countP_eq_length_filter];refine List.countP_mono_left fun x _ hx=>?_;obtain⟨q1,-,q3⟩:=of_decide_eq_true hx;exact decide_eq_true ⟨q1,q3⟩
set_option maxHeartbeats 8000000 in
theorem ZDO {h:Heap}(hL:WkLib h):Sv Tryz.prog 21 [] h (RetP fun v h'=>v=.bool true/\Ext h h'):=by
 refine ZA5 fun hw=>?_;refine ZAF Tryz.func21 rfl (by rw[Tryz.ntmps21];rfl) ?_;show Wc Tryz.prog ⟨21,83,none⟩ _ _ _ _ _;refine zy ?_;refine ZA0 rfl rfl rfl rfl rfl Bod.h rfl rfl ZCZ ?_;rintro _ h1 ⟨hF1,hE1⟩;obtain⟨a1,rfl,hS1,hn1⟩:=ZAD.rowsAt (enc:=rowW) (k:=6) (fun _=>rfl) hF1 rfl;have hn1':a1=none->catL=[]/\catL.length=0:=fun e=>⟨hn1 e,by rw[hn1 e];rfl⟩;refine zy ?_;refine zR (ZN4 hS1 hn1' ZJN (by decide) (hL.ext hE1)) ?_;rintro _ h2 ⟨⟨hc,-⟩|⟨-,va,rfl,hWa⟩,hE2⟩
 ·rw[ZUF] at hc;exact absurd rfl hc
 rw[ZQq,ZPd] at hWa;replace hWa:ZDJ h2 va catW:=hWa;have hE12:=hE1.trans hE2;clear hF1 hS1 hn1 hn1' hE1 hE2;refine zy ?_;refine ZA0 rfl rfl rfl rfl rfl Bod.h rfl rfl ZCZ ?_;rintro _ h3 ⟨hF3,hE3⟩;obtain⟨a3,rfl,hS3,hn3⟩:=ZAD.rowsAt (enc:=rowW) (k:=6) (fun _=>rfl) hF3 rfl;have hn3':a3=none->catL=[]/\catL.length=0:=fun e=>⟨hn3 e,by rw[hn3 e];rfl⟩;refine zy ?_;refine zR (ZQi (a:=ZER) (b:=ZBu) hS3 hn3' ZJN (by decide) (hL.ext (hE12.trans hE3)) (by decide) (by decide)) ?_;have hsm:ZHA catL ZER ZBu=([ZER,35::ZEE,ZBu],0):=by kernel_rfl
 rw[hsm];rintro _ h4 ⟨v4,rfl,hF4,hE4⟩;have hE14:=hE12.trans (hE3.trans hE4);replace hWa:=hWa.ext (hE3.trans hE4);clear hF3 hS3 hn3 hn3' hE3 hE4 hE12;refine zy ?_;refine ZA0 rfl rfl rfl rfl rfl Bod.h rfl rfl ZCZ ?_;rintro _ h5 ⟨hF5,hE5⟩;obtain⟨a5,rfl,hS5,hn5⟩:=ZAD.rowsAt (enc:=rowW) (k:=6) (fun _=>rfl) hF5 rfl;have hn5':a5=none->catL=[]/\catL.length=0:=fun e=>⟨hn5 e,by rw[hn5 e];rfl⟩;refine zy ?_;have hwh:ZKR catL ZEE 12=(ZPa,0):=by kernel_rfl
 refine zR (ZKX (k:=ZEE) (t:=12) hS5 hn5' ZJN (by decide) (hL.ext (hE14.trans hE5)) ZPR) ?_;rw[hwh];rintro _ h6 ⟨rfl,hE6⟩;have hE16:=hE14.trans (hE5.trans hE6);replace hWa:=hWa.ext (hE5.trans hE6);replace hF4:=hF4.ext (hE5.trans hE6);clear hF5 hS5 hn5 hn5' hE5 hE6 hE14;refine zy ?_;refine zW (ZFy ZJG _) fun h7 hE7=>?_;refine zR (ZUr ZJG) ?_;rintro _ h8 ⟨hF8,hE8⟩;obtain⟨a8,rfl,hS8,hn8⟩:=ZAD.rowsAt (enc:=rowW) (k:=6) (fun _=>rfl) hF8 rfl;have hn8':a8=none->catL++[ZJG]=[]/\(catL++[ZJG]).length=0:=fun e=>⟨hn8 e,by rw[hn8 e];rfl⟩;refine zy ?_;refine zR (ZMs hS8 hn8' ZTx (by decide) (hL.ext (hE16.trans (hE7.trans hE8)))) ?_
 rintro _ h9 ⟨⟨hc,-⟩|⟨-,aS,af,rfl,-,hSf,-,-⟩,hE9⟩
 ·rw[ZTc] at hc;exact absurd rfl hc
 rw[ZS8] at hSf ⊢;have hE19:=hE16.trans (hE7.trans (hE8.trans hE9));replace hWa:=hWa.ext (hE7.trans (hE8.trans hE9));replace hF4:=hF4.ext (hE7.trans (hE8.trans hE9));clear hF8 hS8 hn8 hn8' hE7 hE8 hE9 hE16;generalize (ZAd (mrgU ltW (catL++[ZJG]))).length=nS;refine zy ?_;refine ZA0 rfl rfl rfl rfl rfl Bod.h rfl rfl ZCZ ?_;rintro _ h10 ⟨hF5,hE5⟩;obtain⟨a5,rfl,hS5,hn5⟩:=ZAD.rowsAt (enc:=rowW) (k:=6) (fun _=>rfl) hF5 rfl;have hn5':a5=none->catL=[]/\catL.length=0:=fun e=>⟨hn5 e,by rw[hn5 e];rfl⟩;refine zy ?_;have hwh2:ZKR catL ZVE 12=([],4):=by kernel_rfl
 refine zR (ZKX (k:=ZVE) (t:=12) hS5 hn5' ZJN (by decide) (hL.ext (hE19.trans hE5)) ZPR) ?_;rw[hwh2];rintro _ h11 ⟨rfl,hE6⟩;have hE11:=hE19.trans (hE5.trans hE6);replace hWa:=hWa.ext (hE5.trans hE6);replace hF4:=hF4.ext (hE5.trans hE6);replace hSf:=hSf.ext (hE5.trans hE6);clear hF5 hS5 hn5 hn5' hE5 hE6 hE19;refine zy ?_;refine zD (A_tt rfl (ZAs rfl rfl)) ?_;refine zD (A_tt rfl (ZAs rfl rfl)) ?_;refine zD (A_tt rfl (ZAs rfl rfl)) ?_;refine zD (A_tt rfl (ZAs rfl rfl)) ?_;refine zD (A_tt rfl (ZAs rfl rfl)) ?_;refine ZCA (cs:=[str ZBu,str ZER]) rfl rfl Und.h Tsz.h Zr.h rfl rfl rfl rfl rfl fun h12 hE12 hW12 hg12 hn12=>?_
 refine zy ?_;refine ZCA (cs:=[str ZEE]) rfl rfl Und.h Tsz.h Zr.h rfl rfl rfl rfl rfl fun h13 hE13 hW13 hg13 hn13=>?_;refine zE (ZFO (v:=.agg ⟨[.slice (some ⟨h11.nx,0,none⟩) 2 2,.slice (some ⟨h12.nx,0,none⟩) 1 1,str ZL2]⟩) rfl (by kernel_rfl)) ?_;refine ZCA (cs:=[str ZMz]) rfl rfl Und.h Tsz.h Zr.h rfl rfl rfl rfl rfl fun h14 hE14 hW14 hg14 hn14=>?_;refine ZCA (cs:=[str ZL8]) rfl rfl Und.h Tsz.h Zr.h rfl rfl rfl rfl rfl fun h15 hE15 hW15 hg15 hn15=>?_;refine zE (ZFO (v:=.agg ⟨[.slice (some ⟨h13.nx,0,none⟩) 1 1,.slice (some ⟨h14.nx,0,none⟩) 1 1,str []]⟩) rfl (by kernel_rfl)) ?_;refine ZCA (cs:=[.slice (some ⟨h11.nx,0,none⟩) 2 2,.slice (some ⟨h12.nx,0,none⟩) 1 1,str ZL2,.slice (some ⟨h13.nx,0,none⟩) 1 1,.slice (some ⟨h14.nx,0,none⟩) 1 1,str []]) rfl rfl Und.h Tsz.h Zr.h rfl rfl rfl rfl (by kernel_rfl) fun h16 hE16 hW16 hg16 hn16=>?_
 have hWb:=ZS2 hg16 (((hE13.trans hE14).trans (hE15.trans hE16)).get hg12) ((hE14.trans (hE15.trans hE16)).get hg13) ((hE15.trans hE16).get hg14) (hE16.get hg15);have hEx:=(((hE12.trans hE13).trans hE14).trans hE15).trans hE16;replace hE11:=hE11.trans hEx;replace hWa:=hWa.ext hEx;replace hF4:=hF4.ext hEx;replace hSf:=hSf.ext hEx
 refine ZBX rfl rfl rfl rfl rfl Bod.h rfl rfl (ZOy hWa hWb (by decide) (fun w hw=>by
  simp only[catW,List.mem_cons,List.not_mem_nil,or_false] at hw
  rcases hw with rfl|rfl <;> exact⟨by decide,by decide⟩)) ?_
 clear hg12 hg13 hg14 hg15 hg16 hWb hEx hE12 hE13 hE14 hE15 hE16 hWa;obtain⟨a4,rfl,-,hL4⟩:=ZAD.list hF4;refine zy ?_;refine ZCA (cs:=[str ZER,str (35::ZEE),str ZBu]) rfl rfl Und.h Tsz.h Zr.h rfl rfl rfl rfl rfl fun h17 hE17 hW17 hg17 hn17=>?_;refine zV (ZIN (l:=[ZER,35::ZEE,ZBu]) (hL4.ext hE17) (ZFR hg17) (by decide)) ?_;refine zD (A_tt rfl (ZAU rfl rfl)) ?_;refine ZCA (cs:=rowK (ZG3,4)) rfl rfl Und.h Tsz.h Zr.h rfl rfl rfl rfl rfl fun h18 hE18 hW18 hg18 hn18=>?_
 refine ZBX rfl rfl rfl rfl rfl Bod.h rfl rfl (ZPv (l:=[(ZG3,4)]) (hSf.ext (hE17.trans hE18)).1 (fun i hi=>by
  have:i=0:=by simpa using hi
  subst this;exact⟨_,0,none,rfl,_,ZAV hg18 rfl,rfl⟩) (by decide)) ?_
 refine zy ?_;exact ZAB (ZAC rfl ⟨rfl,hE11.trans (hE17.trans hE18)⟩)
section
variable {P:Program}{H:Type}{enc:TypeId×Value->H}{W:World}{cs:List Value}{t e:TypeId}
theorem ZGh (ht:P.underlying t=some .string)(h:RdW enc P W t cs):∃s:Str,cs=[str s]/\s.length<=140737488351232:=by
 obtain⟨m,x,hx,hw⟩:=h;obtain⟨⟨⟨s⟩⟩,h1,h2,h3⟩:=DataW.trod_string ht hx;refine⟨s,h1,?_⟩;rw[h2] at hw;have:=hw s.length (by simp[DataW.weights]);exact this
theorem ZVe (h:RdW enc Tryz.prog W 44 cs):∃x:WkR,cs.all (okv W.heap.size)=true/\cs.map nz=rowW x/\x.Fit:=by
 have cS:Tryz.prog.cellsOf 44=6:=by kernel_rfl
 have cT:Tryz.prog.cellsOf 9=1:=by kernel_rfl
 have cI:Tryz.prog.cellsOf 3=1:=by kernel_rfl
 have h1:=(ZBl Tryz.underlying44 h.rd).1;have h2:=ZOM Tryz.underlying44 h;rw[cS] at h1;obtain⟨x0,x1,x2,x3,x4,x5,rfl⟩:∃x0 x1 x2 x3 x4 x5,cs=[x0,x1,x2,x3,x4,x5]:=by
  match cs,h1 with
  | [x0,x1,x2,x3,x4,x5],_=>exact⟨x0,x1,x2,x3,x4,x5,rfl⟩
 have f0:RdW enc Tryz.prog W 9 (([x0,x1,x2,x3,x4,x5].drop 0).take (Tryz.prog.cellsOf 9)):=h2 0 _ rfl;have f1:RdW enc Tryz.prog W 3 (([x0,x1,x2,x3,x4,x5].drop 1).take (Tryz.prog.cellsOf 3)):=h2 1 _ rfl;have f2:RdW enc Tryz.prog W 3 (([x0,x1,x2,x3,x4,x5].drop 2).take (Tryz.prog.cellsOf 3)):=h2 2 _ rfl;have f3:RdW enc Tryz.prog W 3 (([x0,x1,x2,x3,x4,x5].drop 3).take (Tryz.prog.cellsOf 3)):=h2 3 _ rfl;have f4:RdW enc Tryz.prog W 9 (([x0,x1,x2,x3,x4,x5].drop 4).take (Tryz.prog.cellsOf 9)):=h2 4 _ rfl;have f5:RdW enc Tryz.prog W 9 (([x0,x1,x2,x3,x4,x5].drop 5).take (Tryz.prog.cellsOf 9)):=h2 5 _ rfl
 rw[cT] at f0 f4 f5;rw[cI] at f1 f2 f3;obtain⟨s0,e0,q0⟩:=ZGh Tryz.underlying9 f0;obtain⟨n1,e1,q1⟩:=ZBT Tryz.underlying3 f1.rd;obtain⟨n2,e2,q2⟩:=ZBT Tryz.underlying3 f2.rd;obtain⟨n3,e3,q3⟩:=ZBT Tryz.underlying3 f3.rd;obtain⟨s4,e4,q4⟩:=ZGh Tryz.underlying9 f4;obtain⟨s5,e5,q5⟩:=ZGh Tryz.underlying9 f5;simp only[List.drop_zero,List.drop_succ_cons,List.take_succ_cons,List.take_zero,List.cons.injEq,and_true] at e0 e1 e2 e3 e4 e5;subst e0 e1 e2 e3 e4 e5;exact⟨⟨s0,n1,n2,n3,s4,s5⟩,rfl,rfl,⟨by show s0.length<=_;omega,by show s4.length<=_;omega,by show s5.length<=_;omega⟩⟩
theorem ZUg (h:RdW enc Tryz.prog W 22 cs):∃v a l cap,cs=[v]/\okv W.heap.size v=true/\nz v=.slice a l.length cap/\ZKw (ro W) a l/\Len l/\∀x∈l,x.Fit :=
 ZTM (R:=RecR) (Fit:=WkR.Fit) Tryz.underlying22 (k:=6) (by kernel_rfl) (by decide) (fun row hr=>ZVe hr) h
end
section
variable {P:Program}{H:Type}{enc:TypeId×Value->H}{W:World}{cs:List Value}{t e:TypeId}
theorem ZKm (ht:P.underlying t=some (.slice e))(h:Rd enc P W t cs):∃v,cs=[v]/\∀len cap,nz v=.slice none len cap->cap=0:=by
 obtain⟨m,x,hx⟩:=h
 rcases DataW.trod_slice ht hx with ⟨h1,_⟩|⟨a,len,cap,elems,rest,n,_,h1,_⟩
 ·refine⟨_,h1,fun len cap hv=>?_⟩
  have:Value.slice none 0 0=.slice none len cap:=hv;simp only[Value.slice.injEq] at this;exact this.2.2.symm
 ·refine⟨_,h1,fun len' cap' hv=>?_⟩
  unfold nz at hv
  split at hv
  ·simp at hv
  ·simp at hv
theorem ZR3 (h:RdW enc Tryz.prog W 22 cs):∃v a l cap,cs=[v]/\okv W.heap.size v=true/\nz v=.slice a l.length cap/\SrcK rowW 6 (ro W) a l/\(a=none->l=[]/\cap=0)/\Len l/\∀x∈l,x.Fit:=by
 obtain⟨v,a,l,cap,h1,h2,h3,h4,h5,h6⟩:=ZUg h;obtain⟨v',a',len',cap',g1,g2,g3⟩:=ZK0 Tryz.underlying22 (by rw[show Tryz.prog.cellsOf 44=6 by kernel_rfl];decide) h.rd;obtain⟨v2,k1,k2⟩:=ZKm Tryz.underlying22 h.rd;rw[h1] at g1 k1;simp only[List.cons.injEq,and_true] at g1 k1;subst g1;subst k1;have hcap:a=none->cap=0:=fun e=>k2 _ _ (by rw[h3,e]);rw[h3] at g2;simp only[Value.slice.injEq] at g2;obtain⟨rfl,rfl,rfl⟩:=g2;refine⟨v,a,l,cap,h1,h2,h3,⟨h4,fun hn=>?_⟩,fun e=>⟨?_,hcap e⟩,h5,h6⟩
 ·rcases g3 (by rw[hn];rfl) with g|g|⟨b,o,c,t',fz,g,hb,hle⟩
  ·exact .inl g
  ·exact .inr (.inl g)
  ·refine .inr (.inr ⟨b,o,none,g,?_⟩)
   have hlen:c.toList.length=c.size:=Array.length_toList
   have:=ZLQ (W:=W) (o:=o) (n:=0) (row:=[]) hb (by
    unfold cut;have:Nat.ble (Nat.add o 0) c.toList.length=true:=Nat.ble_eq_true_of_le (by show o+0<=c.toList.length;omega);rw[this];simp) rfl
   simpa using this
 ·subst e
  cases l with
  | nil=>rfl
  | cons x l =>
   obtain⟨b,o,oa,q,_⟩:=h4 0 (by simp);exact nomatch q
end
section
variable {P:Program}{H:Type}{enc:TypeId×Value->H}{W:World}{cs:List Value}{t e:TypeId}
theorem ZR9 (h:RdW enc Tryz.prog W 22 cs):∃v a l cap,cs=[v]/\okv W.heap.size v=true/\nz v=.slice a l.length cap/\SrcK rowW 6 (ro W) a l/\(a=none->l=[]/\cap=0)/\l.length*72<=140737488351232/\∀x∈l,x.Fit:=by
 obtain⟨v,a,l,cap,h1,h2,h3,h4,h5,-,h7⟩:=ZR3 h;obtain⟨v',a',len',cap',g1,-,g3,-,g5,-⟩:=ZKk Tryz.underlying22 (by rw[show Tryz.prog.cellsOf 44=6 by kernel_rfl];decide) h;rw[h1] at g1;simp only[List.cons.injEq,and_true] at g1;subst g1;rw[h3] at g3;simp only[Value.slice.injEq] at g3;obtain⟨-,rfl,-⟩:=g3;rw[show Tryz.prog.bytesOf 44=72 by kernel_rfl] at g5;exact⟨v,a,l,cap,h1,h2,h3,h4,h5,g5,h7⟩
end
end Go.Dw
