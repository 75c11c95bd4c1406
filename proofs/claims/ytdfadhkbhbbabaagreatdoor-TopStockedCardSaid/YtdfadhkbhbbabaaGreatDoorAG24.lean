/- TW: contracts: Twice, where nothing is at two places on a day. -/
import Derived.Shelf.SlSortCmp.NoneTotal
import Derived.Test.YtdfadhkbhbbabaaGreatDoorAG2
import Derived.Test.YtdfadhkbhbbabaaGreatDoorAG23
import Derived.Test.YtdfadhkbhbbabaaGreatDoorAG16
set_option linter.unusedVariables false
set_option linter.unusedSimpArgs false
namespace Go.Dw
open Go Go.Dx Go.Proofs Go.Sort Go.RowKit Go.Lib
set_option maxRecDepth 100000
abbrev xTW0:List Nat:=[0,1,0,0,12,28,60,127]
abbrev xTW1:List Nat:=[0,1,2,3,4,5,6,7,8,9,10,11]
abbrev xTW2:List Nat:=[0,1,2,3,4,5,6,7]
abbrev xTW3:List Nat:=[0,1,3,7,15,7,7,103,231,487,1023,2047]
def ZKz:Go.Shelf.Ren:=⟨fun|6=>32|15=>59|14=>58|28=>108|29=>109|20=>100|21=>101|22=>102|23=>103|24=>104|25=>105|26=>106|27=>107|46=>146|47=>147|48=>148|49=>149|50=>150|57=>181|n=>n,fun|22=>49|24=>97|25=>101|3=>3|39=>143|0=>0|53=>178|55=>180|4=>4|46=>172|45=>171|50=>124|5=>5|9=>9|66=>218|70=>222|76=>244|77=>245|n=>n,fun|n=>n⟩
theorem ZSk:Go.Proofs.SlLaysF0.n6 Tryz.prog ZKz:={
 mixed:=by kernel_rfl
 f6:=⟨Tryz.f32.name,by decide,Tryz.func32.trans (congrArg some (by kernel_rfl))⟩
 f14:=⟨Tryz.f58.name,by decide,Tryz.func58.trans (congrArg some (by kernel_rfl))⟩
 f15:=Tryz.func59.trans (congrArg some (by kernel_rfl))
 f20:=⟨Tryz.f100.name,by decide,Tryz.func100.trans (congrArg some (by kernel_rfl))⟩
 f21:=⟨Tryz.f101.name,by decide,Tryz.func101.trans (congrArg some (by kernel_rfl))⟩
 f22:=⟨Tryz.f102.name,by decide,Tryz.func102.trans (congrArg some (by kernel_rfl))⟩
 f23:=⟨Tryz.f103.name,by decide,Tryz.func103.trans (congrArg some (by kernel_rfl))⟩
 f24:=⟨Tryz.f104.name,by decide,Tryz.func104.trans (congrArg some (by kernel_rfl))⟩
 f25:=⟨Tryz.f105.name,by decide,Tryz.func105.trans (congrArg some (by kernel_rfl))⟩
 f26:=⟨Tryz.f106.name,by decide,Tryz.func106.trans (congrArg some (by kernel_rfl))⟩
 f27:=⟨Tryz.f107.name,by decide,Tryz.func107.trans (congrArg some (by kernel_rfl))⟩
 f28:=Tryz.func108.trans (congrArg some (by kernel_rfl))
 f29:=Tryz.func109.trans (congrArg some (by kernel_rfl))
 f46:=⟨Tryz.f146.name,by decide,Tryz.func146.trans (congrArg some (by kernel_rfl))⟩
 f47:=Tryz.func147.trans (congrArg some (by kernel_rfl))
 f48:=Tryz.func148.trans (congrArg some (by kernel_rfl))
 f49:=⟨Tryz.f149.name,by decide,Tryz.func149.trans (congrArg some (by kernel_rfl))⟩
 f50:=⟨Tryz.f150.name,by decide,Tryz.func150.trans (congrArg some (by kernel_rfl))⟩
 f57:=⟨Tryz.f181.name,by decide,Tryz.func181.trans (congrArg some (by kernel_rfl))⟩
 t0:=Tryz.underlying0
 a0:=Tryz.isAgg0
 z0:=Tryz.sizeOf0
 v0:=Tryz.zeroValue0
 t3:=Tryz.underlying3
 a3:=Tryz.isAgg3
 z3:=Tryz.sizeOf3
 v3:=Tryz.zeroValue3
 t4:=Tryz.underlying4
 a4:=Tryz.isAgg4
 z4:=Tryz.sizeOf4
 v4:=Tryz.zeroValue4
 t5:=Tryz.underlying5
 a5:=Tryz.isAgg5
 z5:=Tryz.sizeOf5
 v5:=Tryz.zeroValue5
 t9:=Tryz.underlying9
 a9:=Tryz.isAgg9
 z9:=Tryz.sizeOf9
 v9:=Tryz.zeroValue9
 t22:=Tryz.underlying49
 a22:=Tryz.isAgg49
 z22:=Tryz.sizeOf49
 v22:=Tryz.zeroValue49
 t25:=Tryz.underlying101
 a25:=Tryz.isAgg101
 z25:=Tryz.sizeOf101
 v25:=Tryz.zeroValue101
 t39:=Tryz.underlying143
 a39:=Tryz.isAgg143
 z39:=Tryz.sizeOf143
 v39:=Tryz.zeroValue143
 t45:=Tryz.underlying171
 a45:=Tryz.isAgg171
 z45:=Tryz.sizeOf171
 v45:=Tryz.zeroValue171
 t46:=Tryz.underlying172
 a46:=Tryz.isAgg172
 z46:=Tryz.sizeOf172
 v46:=Tryz.zeroValue172
 t50:=Tryz.underlying124
 a50:=Tryz.isAgg124
 z50:=Tryz.sizeOf124
 v50:=Tryz.zeroValue124
 t53:=Tryz.underlying178
 a53:=Tryz.isAgg178
 z53:=Tryz.sizeOf178
 v53:=Tryz.zeroValue178
 t55:=Tryz.underlying180
 a55:=Tryz.isAgg180
 z55:=Tryz.sizeOf180
 v55:=Tryz.zeroValue180
 t66:=Tryz.underlying218
 a66:=Tryz.isAgg218
 z66:=Tryz.sizeOf218
 v66:=Tryz.zeroValue218
 t70:=Tryz.underlying222
 a70:=Tryz.isAgg222
 z70:=Tryz.sizeOf222
 v70:=Tryz.zeroValue222
 t76:=Tryz.underlying244
 a76:=Tryz.isAgg244
 z76:=Tryz.sizeOf244
 v76:=Tryz.zeroValue244
 t77:=Tryz.underlying245
 a77:=Tryz.isAgg245
 z77:=Tryz.sizeOf245
 v77:=Tryz.zeroValue245 }
theorem ZQS {h:Heap}:Sv Tryz.prog 32 [.slice none 0 0,.func (.func 33) ⟨[]⟩ ⟨[]⟩] h (RetP fun r h'=>r=.tuple ⟨[]⟩/\h'=h):=by
 refine⟨fun ι w args' hr hv=>?_⟩;obtain⟨l',rfl,hv⟩:=hv.arr
 cases hv with
 | cons hv1 hv2 =>
  cases hv2 with
  | cons hv3 hv4 =>
   cases hv4;have e1:=hv1.flat_eq rfl;subst e1;refine (AnyF.slices_SortFunc_none ZSk none 0 _ w).mono ?_;rintro e w' ⟨rfl,rfl⟩;exact⟨.ret (.tuple ⟨[]⟩) h,⟨rfl,rfl⟩,ZDe hr (VR.of_flat ι rfl) ⟨⟨Nat.le_refl _,fun _ _=>rfl,rfl,rfl⟩,rfl,Nat.le_refl _⟩⟩
set_option maxHeartbeats 2000000 in
theorem ZQh {a:Option Addr}{cap:Nat}{l:List WkR}{h:Heap}(hR:SrcK rowW 6 h a l)(hn:a=none->l=[]/\cap=0)(hf:∀x∈l,x.Fit)(hlen:Len l)(hL:WkLib h)(hc0:(chkS l).2=0)(hq:∀k,∀x∈ZBn (ZAk (mrgU ltW l)) 80000 k,∀y∈ZBn (ZAk (mrgU ltW l)) 80000 k,x.day=y.day->x.b=y.b) :
  Sv Tryz.prog 8 [.slice a l.length cap] h (RetP fun v h'=>v=.tuple ⟨[.slice none 0 0,i64 0]⟩/\Ext h h'):=by
 have hop:=ZGS hR hn hf hlen hL;unfold ZKq at hop;have hl2:=ZE9 hc0;have hcg:=ZEa hc0;generalize chkS l=ck at *;refine ZAG Tryz.func8 rfl (by rw[Tryz.ntmps8];rfl) ?_;show Wc Tryz.prog ⟨8,75,none⟩ _ _ _ _ _;refine zy ?_;refine ZAa rfl rfl rfl rfl rfl Bod.h rfl rfl hop ?_;rintro _ h1 ⟨⟨hc,rfl⟩|⟨hc,aS,af,rfl,hS,-⟩,hE1⟩
 ·exact absurd hc0 hc
 have hup:=ZPr l;have hsl:(ZAk (mrgU ltW l)).length<=200:=Nat.le_trans (ZIB l) hl2;have hsd:∀x∈ZAk (mrgU ltW l),0<=x.day/\x.day<=80000:=fun x hx=>ZM3 (hcg x (ZFB hx));clear hcg hop;generalize ZAk (mrgU ltW l)=S at *;generalize ZCB (mrgU ltW l)=F at *;refine zy ?_;refine zD (A_ff (fun q=>q rfl) (ZAh rfl rfl)) ?_;refine ZBC fun hw=>?_;refine zR (ZJi (t:=80000) hS hup hsl hsd) ?_;rintro _ h3 ⟨hE3,bm,rfl,G,hO,hon,hlk⟩;refine zy ?_;refine ZB0 strK hE3 rfl rfl Und.h rfl hO fun h4 hW4 hO4 hE34=>?_;have hE4:=hE3.trans hE34;generalize h3.nx=rr at hO4 ⊢;clear hO hE3 hE34;refine zy ?_;refine ZAN (fun (V:List Str) m ds h'=>ds=[]/\Ext h1 h'/\Own h1 h' (itI strK bm rr (kvG G) V::slG rowW 45 6 h1 G)/\V.Nodup/\(∀k∈V,k∈itmW S)/\AllK m [(2,.slice none 0 0),(23,.pointer (some ⟨rr,0,none⟩))]) (fun V=>(itmW S).length-V.length) [] ?_ ?_
 ·exact⟨rfl,hE4,hO4,.nil,(fun _ h=>nomatch h),rfl,rfl,trivial⟩
 clear hO4 hE4 hW4;rintro V m ds h5 ⟨rfl,hE5,hO5,hVn,hV2,hall⟩;refine Wc.le ?_ (Le.kn hall);clear hall;refine zy ?_;refine ZCG strK hw hE5 rfl rfl rfl hon hO5 (fun hdone=>?_) fun k v h6 hlkv hnk hC hO6 hE6=>?_
 ·refine zy ?_
  refine ZBF rfl rfl rfl rfl rfl Bod.h rfl rfl ZQS ?_;refine zy ?_;exact ZAC (ZAD rfl ⟨rfl,hE1.trans hE5⟩)
 have hkG:ZBQ k G=some (v,ZBn S 80000 k)/\k∈itmW S:=by
  rw[ZCl] at hlkv;have h1:=hlk k
  cases hl:ZBQ k G with
  | none=>rw[hl] at hlkv;cases hlkv
  | some q =>
   rw[hl] at hlkv h1
   by_cases hk:k∈itmW S
   ·rw[if_pos hk] at h1
    obtain⟨q1,q2⟩:=q;simp only[Option.map_some,Option.some.injEq] at hlkv h1;rw[hlkv,h1];exact⟨rfl,hk⟩
   ·rw[if_neg hk] at h1;cases h1
 obtain⟨hlG,hki⟩:=hkG
 have hV3:∀k'∈k::V,k'∈itmW S:=fun k' hk'=>by
  rcases List.mem_cons.1 hk' with rfl|hk'
  ·exact hki
  ·exact hV2 k' hk'
 have hlt:V.length+1<=(itmW S).length:=ZBH (List.nodup_cons.2 ⟨hnk,hVn⟩) hV3;have hmem:=ZHS rowW 45 6 (h0:=h1) hlG;obtain⟨av,rfl,-,-⟩:=ZAF.rowsAt (enc:=rowW) (k:=6) (fun _=>rfl) (show ZAF h1 h6 v 45 6 _ _ from hO6.tail.has _ hmem) rfl;have hqk:=hq k;have hspl:(ZBn S 80000 k).length<=200:=by
  have h1:=ZFW hup 80000 k;have h2:=ZG3 S 80000 k;omega
 clear hlkv hlk hlG hq;generalize ZBn S 80000 k=sp at *
 have hrw:∀(h':Heap) (I:List It),slI h1 (.slice av sp.length sp.length) 45 6 (sp.flatMap rowW) sp.length∈I->Own h1 h' I->ZBO 6 (fun _ row x=>row=rowW x) h' av sp:=fun h' I hI hO=>by
  obtain⟨a',e',hS',-⟩:=ZAF.rowsAt (enc:=rowW) (k:=6) (fun _=>rfl) (show ZAF h1 h' (.slice av sp.length sp.length) 45 6 (sp.flatMap rowW) sp.length from hO.has _ hI) rfl;cases e';exact hS'.1
 refine zy ?_;refine ZDk strK rfl rfl rfl hC ?_;refine zy ?_;refine ZAN (fun (st:Nat×Nat) m ds h'=>ds=[]/\Ext h1 h'/\st.1<=sp.length/\(st.2<st.1\/(st.1=0/\st.2=0))/\Own h1 h' (itI strK bm rr (kvG G) (k::V)::slG rowW 45 6 h1 G)/\AllK m [(2,.slice none 0 0),(7,.slice av sp.length sp.length),(8,i64 (st.2:Nat)),(9,.bool false),(23,.pointer (some ⟨rr,0,none⟩)),(29,.slice av sp.length sp.length),(30,i64 sp.length),(31,i64 (st.1:Nat))]) (fun st=>sp.length-st.1) (0,0) ?_ ?_
 ·exact⟨rfl,hE6,Nat.zero_le _,.inr ⟨rfl,rfl⟩,hO6,rfl,rfl,rfl,rfl,rfl,rfl,rfl,rfl,trivial⟩
 rintro⟨i,b⟩ m ds h7 ⟨rfl,hE7,hi,hb,hO7,hall⟩;refine Wc.le ?_ (Le.kn hall);clear hall;simp only at hi hb hO7 ⊢;refine zy ?_;refine zC (ZAU rfl rfl) (fun hil=>?_) (fun hil=>?_);rotate_left
 ·refine zy ?_
  exact⟨k::V,(by show (itmW S).length-(V.length+1)<(itmW S).length-V.length;omega),rfl,hE7,hO7,List.nodup_cons.2 ⟨hnk,hVn⟩,hV3,rfl,rfl,trivial⟩
 have hi':i<sp.length:=by omega
 have hbl:b<sp.length:=by omega
 obtain⟨bS,oS,oaS,rfl,row,hrow,hx⟩:=hrw h7 _ (List.mem_cons_of_mem _ hmem) hO7 i hi';have hqx:=hqk _ (List.getElem_mem hi') _ (List.getElem_mem hbl);have hxE:∃x,x=sp[i]:=⟨_,rfl⟩;obtain⟨x,hxE⟩:=hxE;have hyE:∃y,y=sp[b]:=⟨_,rfl⟩;obtain⟨y,hyE⟩:=hyE;have ex:row=rowW sp[i]:=hx;rw[<-hxE] at hqx ex;rw[<-hyE] at hqx;subst ex;refine zy ?_;refine zD (A_ix Und.h Tsz.h rfl rfl) ?_;refine ZBC fun hw7=>?_;refine ZA2 rfl rfl Zr.h fun h8 hE8 hW8 hg8 hn8=>?_;have hO8:=hO7.newCe hw7 hE7.2.1 hE8 hg8 (Nat.le_refl _);have hE78:=hE7.trans hE8;generalize h7.nx=bx at hO8 hg8 ⊢;refine zy ?_;refine ZB6 (r:=rowW x) hw hE78 rfl Tsz.h rfl rfl hO8 rfl rfl rfl fun h9 hW9 hO9 hE9=>?_
 have hgx:h9.get bx=some (.cells (rowW x) 45 false):=hO9.p1;have hRw9:=hrw h9 _ (List.mem_cons_of_mem _ (List.mem_cons_of_mem _ hmem)) hO9;obtain⟨bS',oS',oaS',eS',row',hrow',hx'⟩:=hRw9 b hbl;obtain⟨bT,oT,oaT,eT,row3,hrow3,hx3⟩:=hRw9 i hi';cases eS';cases eT;have ex':row'=rowW sp[b]:=hx';have ex3:row3=rowW sp[i]:=hx3;rw[<-hyE] at ex';rw[<-hxE] at ex3;subst ex' ex3;have hx2:ZAS h9 bx (0+2)=some (i64 x.day):=ZAb hgx rfl;have hx5:ZAS h9 bx (0+5)=some (str x.b):=ZAb hgx rfl;have hy2:ZAS h9 bS (oS+b*6+2)=some (i64 y.day):=ZAK (k:=2) hrow' rfl;have hy5:ZAS h9 bS (oS+b*6+5)=some (str y.b):=ZAK (k:=5) hrow' rfl
 have hz5:ZAS h9 bS (oS+i*6+5)=some (str x.b):=ZAK (k:=5) hrow3 rfl;clear hO8 hO7 hRw9 hrow hrow' hrow3 hE78 hE8 hg8
 by_cases hd:x.day=y.day
 rotate_left
 ·refine zy ?_
  refine ZAL hmix xTW0 xTW2 none [] (by kernel_rfl) (by kernel_rfl) ?_;refine z_f ?_;refine z_l ?_;refine z_m ?_;refine z_m ?_;refine ZAB rfl rfl rfl rfl rfl (fun _=>A_ix (k:=b) Und.h Tsz.h rfl rfl hbl) ?_;refine z_f ?_;refine z_l ?_;refine ZAB rfl rfl rfl rfl rfl (fun _=>A_tt hd (ZAh rfl rfl)) ?_;refine ZAO (ZAA rfl) nb' ?_;refine zy ?_;refine ZAL hmix xTW3 xTW1 none [] (by kernel_rfl) (by kernel_rfl) ?_;refine z_m ?_;refine z_n ?_;refine z_m ?_;refine g_f ?_;refine g_l ?_;refine g_m ?_;refine g_m ?_
  first|refine ZAT rfl rfl rfl rfl ?_|refine ZAB rfl rfl rfl rfl rfl (fun _=>A_ix (k:=i) Und.h Tsz.h rfl rfl hi') ?_
  refine g_f ?_;refine g_l ?_
  first|refine ZAT rfl rfl rfl rfl ?_|refine ZAB rfl rfl rfl rfl rfl (fun _=>A_ff (fun q=>q rfl) (ZA6 rfl rfl)) ?_
  refine z_p ?_;refine ZAO (ZAA rfl) nb' ?_;refine zy ?_;exact⟨(i+1,i),(by show sp.length-(i+1)<sp.length-i;omega),rfl,hE9,hi',.inl (Nat.lt_succ_self i),hO9.tail,rfl,rfl,rfl,rfl,rfl,rfl,rfl,rfl,trivial⟩
 ·refine zy ?_
  refine ZAL hmix xTW0 xTW2 none [] (by kernel_rfl) (by kernel_rfl) ?_;refine z_f ?_;refine z_l ?_;refine z_m ?_;refine z_m ?_;refine ZAB rfl rfl rfl rfl rfl (fun _=>A_ix (k:=b) Und.h Tsz.h rfl rfl hbl) ?_;refine z_f ?_;refine z_l ?_;refine ZAB rfl rfl rfl rfl rfl (fun _=>A_ff (fun q=>q hd) (ZAh rfl rfl)) ?_;refine ZAO (ZAA rfl) nb' ?_;refine zy ?_;refine ZAL hmix xTW3 xTW1 none [] (by kernel_rfl) (by kernel_rfl) ?_;refine z_m ?_;refine z_n ?_;refine z_m ?_;refine g_f ?_;refine g_l ?_;refine g_m ?_;refine g_m ?_
  first|refine ZAT rfl rfl rfl rfl ?_|refine ZAB rfl rfl rfl rfl rfl (fun _=>A_ix (k:=b) Und.h Tsz.h rfl rfl hbl) ?_
  refine g_f ?_;refine g_l ?_
  first|refine ZAT rfl rfl rfl rfl ?_|refine ZAB rfl rfl rfl rfl rfl (fun _=>A_ff (fun q=>q (hqx hd)) (ZA6 rfl rfl)) ?_
  refine z_p ?_;refine ZAO (ZAA rfl) nb' ?_;refine zy ?_;exact⟨(i+1,b),(by show sp.length-(i+1)<sp.length-i;omega),rfl,hE9,hi',.inl (by omega),hO9.tail,rfl,rfl,rfl,rfl,rfl,rfl,rfl,rfl,trivial⟩
end Go.Dw
