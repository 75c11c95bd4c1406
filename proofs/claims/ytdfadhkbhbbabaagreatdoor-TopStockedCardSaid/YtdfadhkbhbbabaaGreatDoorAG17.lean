/- D1: contracts: the web of a shelf. -/
import Derived.Test.YtdfadhkbhbbabaaGreatDoorAG2
import Derived.Test.YtdfadhkbhbbabaaGreatDoorAG13
import Derived.Test.YtdfadhkbhbbabaaGreatDoorAG4
set_option linter.unusedVariables false
set_option linter.unusedSimpArgs false
namespace Go.Dw
open Go Go.Dx Go.Proofs
set_option maxRecDepth 100000
structure ZDq (G:WebG)(E:List (Str×Str))(N:List Str):Prop where
 raw:∀k,rawG k G=adjR E k
 is:∀k,(ZBQ k G).isSome=decide (k∈N)
 once:Once (kvG G)
theorem ZDq.nil:ZDq [] [] []:=⟨fun _=>rfl,fun _=>rfl,by simp[Once,kvG]⟩
theorem ZDq.own {G:WebG}{E:List (Str×Str)}{N:List Str}(h:ZDq G E N)(k:Str)(v:Value):ZDq (setG k v (rawG k G) G) E (N++[k]) where
 raw:=fun k'=>by
  rw[ZGF]
  split
  ·rename_i e;rw[e];exact h.raw k
  ·exact h.raw k'
 is:=fun k'=>by
  rw[ZD1]
  by_cases e:k'=k
  ·simp[e]
  ·rw[if_neg e,h.is];simp[e]
 once:=by rw[ZCa];exact h.once.set
theorem ZDq.tie {G:WebG}{E:List (Str×Str)}{N:List Str}(h:ZDq G E N)(a b:Str)(va vb:Value):ZDq (setG b vb (rawG b (setG a va (rawG a G++[b]) G)++[a]) (setG a va (rawG a G++[b]) G)) (E++[(a,b)]) (N++[a,b]) where
 raw:=fun k=>by
  rw[ZGF,ZGF,ZGF,ZPt,h.raw,h.raw,h.raw]
  by_cases e1:k=b
  ·subst e1
   by_cases e2:k=a
   ·subst e2;simp
   ·simp[e2,Ne.symm e2]
  ·rw[if_neg e1]
   by_cases e2:k=a
   ·subst e2;simp[Ne.symm e1]
   ·simp[e2,Ne.symm e2,Ne.symm e1]
 is:=fun k=>by
  rw[ZD1,ZD1]
  by_cases e1:k=b
  ·simp[e1]
  ·rw[if_neg e1]
   by_cases e2:k=a
   ·simp[e2]
   ·rw[if_neg e2,h.is];simp[e1,e2]
 once:=by rw[ZCa,ZCa];exact h.once.set.set
def ZQT (h:Heap)(bm:Nat)(s:List WkR):Prop :=
 ∃gl,MapB strK h bm gl/\Once gl/\(∀k,(lkp k gl).isSome=decide (k∈nodW s))/\∀k∈nodW s,∃a c,lkp k gl=some (.slice a (nxtW s k).length c)/\ZAi str h a (nxtW s k)
theorem ZQT.ext {h h':Heap}{bm:Nat}{s:List WkR}(hW:ZQT h bm s)(hE:Ext h h'):ZQT h' bm s:=by
 obtain⟨gl,h1,h2,h3,h4⟩:=hW;exact⟨gl,h1.ext strK hE,h2,h3,fun k hk=>by obtain⟨a,c,q1,q2⟩:=h4 k hk;exact⟨a,c,q1,q2.ext hE⟩⟩
theorem ZHQ {h:Heap}{b i:Nat}{v:Value}(hc:ZAS h b i=some v):∃o,h.get b=some o/\o≠.defd:=by
 unfold ZAS at hc
 cases hg:h.get b with
 | none=>rw[hg] at hc;cases hc
 | some o =>
  refine⟨o,rfl,?_⟩;rintro rfl;rw[hg] at hc;cases hc
theorem ZPd {h h':Heap}{b i:Nat}{v:Value}(hc:ZAS h b i=some v)(hk:∀o,h.get b=some o->h'.get b=some o):ZAS h' b i=some v:=by
 obtain⟨o,hg,-⟩:=ZHQ hc;have h2:=hk _ hg;unfold ZAS at hc ⊢;rw[hg] at hc;rw[h2];exact hc
def liI (a:Option Addr)(l:List Str):It where
 S:=fun c=>l≠[]/\∃o oa,a=some ⟨c,o,oa⟩
 p:=fun h=>ZAi str h a l
 loc:=fun {h h'} hk hp i hi=>by
  obtain⟨b,o,oa,e,hc⟩:=hp i hi;exact⟨b,o,oa,e,ZPd hc fun o' hg=>hk _ _ ⟨by rintro rfl;exact absurd hi (Nat.not_lt_zero _),o,oa,e⟩ hg⟩
 ex:=fun {h c} hp hc=>by
  obtain⟨hne,o,oa,e⟩:=hc;obtain⟨b,o',oa',e',hc⟩:=hp 0 (List.length_pos_iff.2 hne);rw[e] at e';cases e';obtain⟨o2,hg,-⟩:=ZHQ hc;exact⟨_,hg⟩
def WebO (h0 h:Heap)(bm:Nat)(s:List WkR):Prop :=
 ∃(gl:List (Str×Value)) (D:List (Str×Option Addr×Nat)),Own h0 h (mapI strK bm gl::D.map fun d=>liI d.2.1 (nxtW s d.1))/\Once gl/\(∀k,(lkp k gl).isSome=decide (k∈nodW s))/\∀k∈nodW s,∃d∈D,d.1=k/\lkp k gl=some (.slice d.2.1 (nxtW s k).length d.2.2)
theorem WebO.at' {h0 h:Heap}{bm:Nat}{s:List WkR}(hW:WebO h0 h bm s):ZQT h bm s:=by
 obtain⟨gl,D,hO,h2,h3,h4⟩:=hW;refine⟨gl,hO.p1,h2,h3,fun k hk=>?_⟩;obtain⟨d,hd,rfl,e⟩:=h4 k hk;exact⟨d.2.1,d.2.2,e,hO.tail.has (liI d.2.1 (nxtW s d.1)) (List.mem_map.2 ⟨d,hd,rfl⟩)⟩
theorem Own.rot {h0 h:Heap}{x:It}{A T R:List It}(hO:Own h0 h (x::((A++T)++R))):Own h0 h (A++(x::(T++R))):=by
 rw[List.append_assoc] at hO;exact hO.perm List.perm_middle.symm
theorem Own.unrot {h0 h:Heap}{x:It}{A T R:List It}(hO:Own h0 h (A++(x::(T++R)))):Own h0 h ((A++T)++R):=by
 rw[List.append_assoc];exact (hO.perm List.perm_middle).tail
theorem ZMH {ks:List Int}{s pre post:List WkR}{x:WkR}(h:ofK ks s=pre++x::post):pre.length<=s.length/\x∈s/\x.kind∈ks:=by
 have h1:(ofK ks s).length<=s.length:=List.length_filter_le _ _;have h2:x∈ofK ks s:=by rw[h];simp
 rw[h,List.length_append] at h1;exact⟨by omega,(ZDL.1 h2).1,(ZDL.1 h2).2⟩
def cloI (b3 b4:Nat):It:=ceI b4 [.func (.func 84) ⟨[]⟩ ⟨[.pointer (some ⟨b3,0,none⟩)]⟩] 161 false
def webT (b3 b4 bk c1 c2:Nat)(a:Option Addr)(n cap:Nat)(k:Int):List It:=[ceI c1 [.slice a n cap] 90 false,ceI c2 [.slice (some ⟨bk,0,none⟩) 1 1] 46 false,ceI bk [i64 k] 3 false,cloI b3 b4]
theorem ZFm {σ:Type}{Y:σ->List It}{R:List It}{h0:Heap}{b3 b4 bk c1 c2 cap:Nat}{a:Option Addr}{s:List WkR}(hR:SrcK rowW 6 h0 a s)(hls:Len s)(k:Int) :
  ZPf Tryz.prog 86 [.pointer (some ⟨c1,0,none⟩),.pointer (some ⟨c2,0,none⟩)] h0 (fun st=>Y st++(webT b3 b4 bk c1 c2 a s.length cap k++R)) (ofK [k] s) encW :=
 ZMh (c1:=c1) (c2:=c2) (bk:=bk) (cap:=cap) (sp:=none) (op:=false) (ks:=[k]) hR hls (show (1:Nat)<_ by decide) fun st=>⟨by simp[webT],by simp[webT],by simp[webT]⟩
theorem ZEY {h0 h:Heap}{b3 b4 bk c1 c2 n cap:Nat}{a:Option Addr}{k:Int}{A Rs:List It}(hO:Own h0 h (ceI c1 [.slice a n cap] 90 false::ceI c2 [.slice (some ⟨bk,0,none⟩) 1 1] 46 false::ceI bk [i64 k] 3 false::(A++(cloI b3 b4::Rs)))):Own h0 h (A++(webT b3 b4 bk c1 c2 a n cap k++Rs)) :=
 hO.perm ((List.Perm.cons _ (List.Perm.cons _ (List.Perm.cons _ List.perm_middle))).trans (List.perm_append_comm_assoc (webT b3 b4 bk c1 c2 a n cap k) A Rs))
theorem ZFS {h0 h:Heap}{b3 b4 bk c1 c2 n cap r:Nat}{a:Option Addr}{k:Int}{A Rs:List It}(hO:Own h0 h (loI r .defd::(A++(webT b3 b4 bk c1 c2 a n cap k++Rs)))):Own h0 h (A++(cloI b3 b4::loI r .defd::Rs)):=by
 have h1:Own h0 h (loI r .defd::(webT b3 b4 bk c1 c2 a n cap k++(A++Rs))):=hO.perm (List.Perm.cons _ (List.perm_append_comm_assoc _ _ _));have h2:Own h0 h (loI r .defd::cloI b3 b4::(A++Rs)):=h1.sub (List.Sublist.cons_cons _ (List.Sublist.cons _ (List.Sublist.cons _ (List.Sublist.cons _ (List.Sublist.refl _)))));exact h2.up2.perm (List.perm_append_comm_assoc [cloI b3 b4,loI r .defd] A Rs)
theorem ZN3 {h0 h:Heap}{bm b3:Nat}{G:WebG}{I:List It}(hO:Own h0 h (webX h0 bm b3 G++I)):Own h0 h ((mapI strK bm (kvG G)::ceI b3 [.map (some bm)] 112 false::I)++slG encT 9 1 h0 G):=hO.perm (List.Perm.cons _ (List.Perm.cons _ List.perm_append_comm))
theorem ZPs {h0 h:Heap}{bm b3:Nat}{G:WebG}{I:List It}(hO:Own h0 h ((mapI strK bm (kvG G)::ceI b3 [.map (some bm)] 112 false::I)++slG encT 9 1 h0 G)):Own h0 h (webX h0 bm b3 G++I):=hO.perm (List.Perm.cons _ (List.Perm.cons _ List.perm_append_comm))
theorem ZKQ {h0 h:Heap}{G:WebG}{A:List It}(k:Str){v:Value}(hv:(lkp k (kvG G)).getD (.slice none 0 0)=v)(hO:Own h0 h (A++slG encT 9 1 h0 G)):Own h0 h (A++slG encT 9 1 h0 (setG k v (rawG k G) G)):=by
 obtain⟨R,ht1,ht2⟩:=ZFu encT 9 1 h0 k G;have:=ht1 _ _ hO;rw[hv] at this;exact ht2 _ _ _ _ this
set_option maxHeartbeats 4000000 in
theorem ZTU {a:Option Addr}{cap:Nat}{s:List WkR}{h:Heap}(hR:SrcK rowW 6 h a s)(hf:∀x∈s,x.Fit)(hls:s.length<=200) :
  Sv Tryz.prog 45 [.slice a s.length cap] h (RetP fun v h'=>Ext h h'/\∃bm,v=.map (some bm)/\WebO h h' bm s):=by
 refine ZA5 fun hw=>?_;have hlS:Len s:=by show s.length<_;omega
 refine ZAG Tryz.func45 rfl (by rw[Tryz.ntmps45];rfl) ?_;show Wc Tryz.prog ⟨45,75,none⟩ _ _ _ _ _;refine zy ?_;refine ZCe rfl rfl fun h1 hE1 hW1 hg1 hn1=>?_;have hO1:=(Own.nil h h).newMap (K:=strK) hw (Nat.le_refl _) hE1 hg1 (Nat.le_refl _);generalize h.nx=bm at hO1 hg1 ⊢;refine zy ?_;refine ZAJ rfl rfl Zr.h Tsz.h rfl (fun _=>rfl) rfl rfl rfl fun h2 hE2 hW2 hg2 hn2=>?_;have hO2:=hO1.newCe hW1 hE1.2.1 hE2 hg2 (Nat.le_refl _);replace hE2:=hE1.trans hE2;generalize h1.nx=b3 at hO2 hg2 ⊢;refine zy ?_;refine ZAJ rfl rfl Zr.h Tsz.h rfl (fun _=>rfl) rfl rfl rfl fun h3 hE3 hW3 hg3 hn3=>?_;have hO3':=hO2.newCe hW2 hE2.2.1 hE3 hg3 (Nat.le_refl _)
 replace hE3:=hE2.trans hE3;generalize h2.nx=b4 at hO3' hg3 ⊢;clear hg1 hg2 hg3 hn1 hn2 hn3 hE1 hE2 hO1 hO2;have hO3:Own h h3 (webX h bm b3 []++(cloI b3 b4 :: [])):=hO3'.shuf (ceI 0 [] 0 false) [0,1,2] [2,1,0] (by decide) rfl;clear hO3';refine zy ?_;refine ZBg rfl rfl Und.h Tsz.h Zr.h rfl rfl rfl rfl rfl fun h4 hE4 hW4 hg4 hn4=>?_;have hO4:=hO3.newCe hW3 hE3.2.1 hE4 hg4 (Nat.le_refl _);replace hE4:=hE3.trans hE4;generalize h3.nx=bk4 at hO4 hg4 ⊢;refine zy ?_;refine ZAa rfl rfl rfl rfl rfl Bod.h rfl rfl ZOG ?_;rintro _ h5 ⟨c1,c2,rfl,hE5,hI5⟩;have hO5:Own h h5 (webX h bm b3 []++(webT b3 b4 bk4 c1 c2 a s.length cap 1++[])):=ZEY (hO4.join hW4 hE4.2.1 hE5 hI5)
 replace hE5:=hE4.trans hE5;clear hI5 hO4 hE4 hO3 hE3 hg4 hn4 hW4 hW3;refine zy ?_;refine ZDY (q:=5) (X:=fun G=>webX h bm b3 G++(webT b3 b4 bk4 c1 c2 a s.length cap 1++[])) (ok:=fun pre G=>ZDq G (pre.map tieI) (endE (pre.map tieI))) (L:=ofK [1] s) (enc:=encW) (cs:=rowW) (el:=45) (op:=false) (s0:=[]) rfl rfl Bod.h rfl hw hE5 hO5 ZDq.nil (ZFm hR hlS 1) (fun l x h'=>?_) (fun l bn pre x post G h6 R hsp hok hO hE6=>?_) (fun G4 h6 hok6 hO6' hE6=>?_)
 ·refine ZBs ?_
  refine ZAJ rfl rfl Zr.h Tsz.h rfl (fun _=>rfl) rfl rfl rfl fun h8 hE8 hW8 hg8 hn8=>?_;exact ZD7 ⟨rfl,rfl,rfl,hE8,hg8⟩
 ·obtain⟨hpl,hxs,hxk⟩:=ZMH hsp
  have hxf:=hf x hxs;have hgn:h6.get bn=some (.cells (rowW x) 45 false):=hO.p1;have hgc:h6.get b4=some (.cells [.func (.func 84) ⟨[]⟩ ⟨[.pointer (some ⟨b3,0,none⟩)]⟩] 161 false):=hO.has (cloI b3 b4) (by simp[webT]);have hxa:=hxf.a;have hlE:(pre.map tieI).length<=400:=by
   have:=ZHI s;have h1:(ofK [1] s).length<=s.length:=List.length_filter_le _ _;simp only[List.length_append,List.length_map];omega
  have hrw:∀k,(rawG k G).length<=10000:=fun k=>by
   rw[hok.raw];have:=ZJl (pre.map tieI) k;omega
  have hO':=hO.rot;refine zy ?_;refine zD (ZSf rfl rfl (by show 1+x.a.length<_;omega)) ?_;refine zR (ZTM hw hE6 hO' (hrw _) (hrw _)) ?_;rintro _ h7 ⟨va,vb,hO7,hE7⟩;have hok':=hok.tie (tieI x).1 (tieI x).2 va vb;refine zy ?_
  exact⟨rfl,_,(by
   show ZDq _ _ _
   simp only[List.map_append,List.map_cons,List.map_nil,<-List.append_assoc,ZIF];exact hok'),hO7.unrot,hE7⟩
 have hO6:=ZFS hO6';clear hO6' hO5;generalize h5.nx=r4 at hO6 ⊢;refine zy ?_;refine ZBC fun hW6=>?_;refine ZBg rfl rfl Und.h Tsz.h Zr.h rfl rfl rfl rfl rfl fun h7 hE7 hW7 hg7 hn7=>?_;have hO7:=hO6.newCe hW6 hE6.2.1 hE7 hg7 (Nat.le_refl _);replace hE7:=hE6.trans hE7;generalize h6.nx=bk7 at hO7 hg7 ⊢;refine zy ?_;refine ZAa rfl rfl rfl rfl rfl Bod.h rfl rfl ZOG ?_;rintro _ h8 ⟨c1,c2,rfl,hE8,hI8⟩;have hO8:Own h h8 (webX h bm b3 G4++(webT b3 b4 bk7 c1 c2 a s.length cap 2++[loI r4 .defd])):=ZEY (hO7.join hW7 hE7.2.1 hE8 hI8);replace hE8:=hE7.trans hE8;clear hI8 hO7 hE7 hO6 hE6 hg7 hn7 hW7 hW6;refine zy ?_
 refine ZDY (q:=6) (X:=fun G=>webX h bm b3 G++(webT b3 b4 bk7 c1 c2 a s.length cap 2++[loI r4 .defd])) (ok:=fun pre G=>ZDq G ((ofK [1] s).map tieI++pre.map tieS) (endE ((ofK [1] s).map tieI++pre.map tieS))) (L:=ofK [2] s) (enc:=encW) (cs:=rowW) (el:=45) (op:=false) (s0:=G4) rfl rfl Bod.h rfl hw hE8 hO8 (by simpa using hok6) (ZFm hR hlS 2) (fun l x h'=>?_) (fun l bn pre x post G h6 R hsp hok hO hE6=>?_) (fun G7 h9 hok9 hO9' hE9=>?_)
 ·refine ZBs ?_
  refine ZAJ rfl rfl Zr.h Tsz.h rfl (fun _=>rfl) rfl rfl rfl fun h8 hE8 hW8 hg8 hn8=>?_;exact ZD7 ⟨rfl,rfl,rfl,hE8,hg8⟩
 ·obtain⟨hpl,hxs,hxk⟩:=ZMH hsp
  have hxf:=hf x hxs;have hgn:h6.get bn=some (.cells (rowW x) 45 false):=hO.p1;have hgc:h6.get b4=some (.cells [.func (.func 84) ⟨[]⟩ ⟨[.pointer (some ⟨b3,0,none⟩)]⟩] 161 false):=hO.has (cloI b3 b4) (by simp[webT]);have hxa:=hxf.a;have hlE:((ofK [1] s).map tieI++pre.map tieS).length<=400:=by
   have:=ZHI s;have h1:(ofK [1] s).length<=s.length:=List.length_filter_le _ _;simp only[List.length_append,List.length_map];omega
  have hrw:∀k,(rawG k G).length<=10000:=fun k=>by
   rw[hok.raw];have:=ZJl ((ofK [1] s).map tieI++pre.map tieS) k;omega
  have hO':=hO.rot;refine zy ?_;refine zR (ZTM hw hE6 hO' (hrw _) (hrw _)) ?_;rintro _ h7 ⟨va,vb,hO7,hE7⟩;have hok':=hok.tie (tieS x).1 (tieS x).2 va vb;refine zy ?_
  exact⟨rfl,_,(by
   show ZDq _ _ _
   simp only[List.map_append,List.map_cons,List.map_nil,<-List.append_assoc,ZIF];exact hok'),hO7.unrot,hE7⟩
 have hO9:=ZFS hO9';clear hO9' hO8;generalize h8.nx=r7 at hO9 ⊢;have hokE:ZDq G7 (edgW s) (endE (edgW s)):=hok9;clear hok6 hok9;refine zy ?_;refine ZBC fun hW9=>?_;refine ZBg rfl rfl Und.h Tsz.h Zr.h rfl rfl rfl rfl rfl fun h10 hE10 hW10 hg10 hn10=>?_;have hO10:=hO9.newCe hW9 hE9.2.1 hE10 hg10 (Nat.le_refl _);replace hE10:=hE9.trans hE10;generalize h9.nx=bk10 at hO10 hg10 ⊢;refine zy ?_;refine ZAa rfl rfl rfl rfl rfl Bod.h rfl rfl ZOG ?_;rintro _ h11 ⟨c1,c2,rfl,hE11,hI11⟩;have hO11:Own h h11 (webX h bm b3 G7++(webT b3 b4 bk10 c1 c2 a s.length cap 3++[loI r7 .defd,loI r4 .defd])):=ZEY (hO10.join hW10 hE10.2.1 hE11 hI11)
 replace hE11:=hE10.trans hE11;clear hI11 hO10 hE10 hO9 hE9 hg10 hn10 hW10 hW9;refine zy ?_;refine ZDY (q:=7) (X:=fun G=>webX h bm b3 G++(webT b3 b4 bk10 c1 c2 a s.length cap 3++[loI r7 .defd,loI r4 .defd])) (ok:=fun pre G=>ZDq G (edgW s) (endE (edgW s)++endE (pre.map tieS))) (L:=ofK [3] s) (enc:=encW) (cs:=rowW) (el:=45) (op:=false) (s0:=G7) rfl rfl Bod.h rfl hw hE11 hO11 (by simpa [endE] using hokE) (ZFm hR hlS 3) (fun l x h'=>?_) (fun l bn pre x post G h6 R hsp hok hO hE6=>?_) (fun G10 h12 hok12 hO12' hE12=>?_)
 ·refine ZBs ?_
  refine ZAJ rfl rfl Zr.h Tsz.h rfl (fun _=>rfl) rfl rfl rfl fun h8 hE8 hW8 hg8 hn8=>?_;exact ZD7 ⟨rfl,rfl,rfl,hE8,hg8⟩
 ·have hgn:h6.get bn=some (.cells (rowW x) 45 false):=hO.p1
  have hO':=ZN3 hO.rot;have hmap:MapB strK h6 bm (kvG G):=hO'.p1;have hg3:h6.get b3=some (.cells [.map (some bm)] 112 false):=hO'.p2;have hK1:=ZKQ (A:=mapI strK bm (kvG G)::ceI b3 [.map (some bm)] 112 false::ceI bn (rowW x) 45 false::_) x.a rfl hO';have hok1:=hok.own x.a ((lkp x.a (kvG G)).getD (.slice none 0 0));have hvb1:(lkp x.b (kvG (setG x.a ((lkp x.a (kvG G)).getD (.slice none 0 0)) (rawG x.a G) G))).getD (.slice none 0 0)=(lkp x.b (kvG G)).getD (.slice none 0 0):=by
   rw[ZCa,ZBw]
   by_cases e:x.b=x.a
   ·rw[if_pos e,e];rfl
   ·rw[if_neg e]
  have hva1:(lkp x.a (kvG (setG x.a ((lkp x.a (kvG G)).getD (.slice none 0 0)) (rawG x.a G) G))).getD (.slice none 0 0)=(lkp x.a (kvG G)).getD (.slice none 0 0):=by
   rw[ZCa,ZBw,if_pos rfl];rfl
  have hkv:=ZCa x.a ((lkp x.a (kvG G)).getD (.slice none 0 0)) (rawG x.a G) G;generalize hva:(lkp x.a (kvG G)).getD (.slice none 0 0)=vA at *;generalize hvb:(lkp x.b (kvG G)).getD (.slice none 0 0)=vB at *;generalize setG x.a vA (rawG x.a G) G=G1 at *;refine zy ?_;refine ZAL hmix [0,0,2,0,0,16,0,0,128,448,0,0,2048,7168,16327,32767] [0,1,2,3,4,5,6,7,8,9,10,11,12,13] (some 14) [([],(some 15)),([],none)] (by kernel_rfl) (by kernel_rfl) ?_;refine z_l ?_;refine z_f ?_;refine z_l ?_;refine z_l ?_;refine z_f ?_;refine z_l ?_;refine z_l ?_;refine z_f ?_;refine z_l ?_;refine ZAB rfl rfl rfl rfl rfl (fun _=>ZBN strK (k:=x.a) (v:=vA) Und.h Zr.h rfl hmap rfl hva) ?_;refine z_l ?_;refine z_f ?_;refine z_l ?_;refine ZAB rfl rfl rfl rfl rfl (fun _=>ZBN strK (k:=x.b) (v:=vB) Und.h Zr.h rfl hmap rfl hvb) ?_
  refine ZAI [0,1,2,6,7,8,9,10,11,12,13] (by kernel_rfl) rfl (ZAA rfl) rfl nb rfl (ZAu (ZCd strK (k:=x.a) (v:=vA) rfl hw hE6 rfl Und.h rfl hK1 rfl rfl (fun h7 hO7 hE7 hw7=>?_)));rw[<-hkv] at hO7;have hgn7:h7.get bn=some (.cells (rowW x) 45 false):=hO7.p3;have hg37:h7.get b3=some (.cells [.map (some bm)] 112 false):=hO7.p2;have hmap7:MapB strK h7 bm (kvG G1):=hO7.p1;have hK2:=ZKQ (A:=mapI strK bm (kvG G1)::ceI b3 [.map (some bm)] 112 false::ceI bn (rowW x) 45 false::_) x.b hvb1 hO7;have hok2:=hok1.own x.b vB;have hkv2:=ZCa x.b vB (rawG x.b G1) G1;generalize setG x.b vB (rawG x.b G1) G1=G2 at *;refine ZAI [0,1,2,3,4,5,6,7,8,9,10,11,12,13,14] (by kernel_rfl) rfl (by refine t_l 5 ?_;refine t_f 4 ?_;refine t_l 3 ?_;exact ZAA rfl) rfl nb rfl (ZAu (ZCd strK (k:=x.b) (v:=vB) rfl hw hE7 rfl Und.h rfl hK2 rfl rfl (fun h8 hO8 hE8 hw8=>?_)))
  refine ZAO (ZAA rfl) nb' ?_;rw[<-hkv2] at hO8;refine zy ?_
  exact⟨rfl,G2,(by
   show ZDq _ _ _
   simp only[List.map_append,List.map_cons,List.map_nil,ZIF]
   simpa [List.append_assoc,tieS] using hok2),(ZPs hO8).unrot,hE8⟩
 have hO12:=ZFS hO12';clear hO12' hO11;generalize h11.nx=r10 at hO12 ⊢;refine zy ?_;refine ZBC fun hW12=>?_;refine ZBg rfl rfl Und.h Tsz.h Zr.h rfl rfl rfl rfl rfl fun h13 hE13 hW13 hg13 hn13=>?_;have hO13:=hO12.newCe hW12 hE12.2.1 hE13 hg13 (Nat.le_refl _);replace hE13:=hE12.trans hE13;generalize h12.nx=bk13 at hO13 hg13 ⊢;refine zy ?_;refine ZAa rfl rfl rfl rfl rfl Bod.h rfl rfl ZOG ?_;rintro _ h14 ⟨c1,c2,rfl,hE14,hI14⟩;have hO14:Own h h14 (webX h bm b3 G10++(webT b3 b4 bk13 c1 c2 a s.length cap 4++[loI r10 .defd,loI r7 .defd,loI r4 .defd])):=ZEY (hO13.join hW13 hE13.2.1 hE14 hI14);replace hE14:=hE13.trans hE14
 clear hI14 hO13 hE13 hO12 hE12 hg13 hn13 hW13 hW12;refine zy ?_;refine ZDY (q:=8) (X:=fun G=>webX h bm b3 G++(webT b3 b4 bk13 c1 c2 a s.length cap 4++[loI r10 .defd,loI r7 .defd,loI r4 .defd])) (ok:=fun pre G=>ZDq G (edgW s) (endE (edgW s)++endE ((ofK [3] s).map tieS)++pre.map WkR.a)) (L:=ofK [4] s) (enc:=encW) (cs:=rowW) (el:=45) (op:=false) (s0:=G10) rfl rfl Bod.h rfl hw hE14 hO14 (by simpa using hok12) (ZFm hR hlS 4) (fun l x h'=>?_) (fun l bn pre x post G h6 R hsp hok hO hE6=>?_) (fun G13 h15 hok15 hO15' hE15=>?_)
 ·refine ZBs ?_
  refine ZAJ rfl rfl Zr.h Tsz.h rfl (fun _=>rfl) rfl rfl rfl fun h8 hE8 hW8 hg8 hn8=>?_;exact ZD7 ⟨rfl,rfl,rfl,hE8,hg8⟩
 ·have hgn:h6.get bn=some (.cells (rowW x) 45 false):=hO.p1
  have hO':=ZN3 hO.rot;have hmap:MapB strK h6 bm (kvG G):=hO'.p1;have hg3:h6.get b3=some (.cells [.map (some bm)] 112 false):=hO'.p2;have hK1:=ZKQ (A:=mapI strK bm (kvG G)::ceI b3 [.map (some bm)] 112 false::ceI bn (rowW x) 45 false::_) x.a rfl hO';have hok1:=hok.own x.a ((lkp x.a (kvG G)).getD (.slice none 0 0));have hkv:=ZCa x.a ((lkp x.a (kvG G)).getD (.slice none 0 0)) (rawG x.a G) G;generalize hva:(lkp x.a (kvG G)).getD (.slice none 0 0)=vA at *;generalize setG x.a vA (rawG x.a G) G=G1 at *;refine zy ?_;refine zD (ZBN strK (k:=x.a) (v:=vA) Und.h Zr.h rfl hmap rfl hva) ?_;refine ZAy strK (k:=x.a) (v:=vA) hw hE6 rfl Und.h rfl hK1 rfl rfl fun h7 hW7 hO7 hE7=>?_
  rw[<-hkv] at hO7;refine zy ?_
  exact⟨rfl,G1,(by
   show ZDq _ _ _
   simpa [List.append_assoc] using hok1),(ZPs hO7).unrot,hE7⟩
 have hO15:=ZFS hO15';clear hO15' hO14;generalize h14.nx=r13 at hO15 ⊢;have hokN:ZDq G13 (edgW s) (nodW s):=hok15;clear hok12 hok15 hokE;refine zy ?_
 have hmm:∀k,(ZBQ k G13).map Prod.snd=if k∈nodW s then some (adjR (edgW s) k) else none:=fun k=>by
  have h1:=hokN.is k;have h2:=hokN.raw k;unfold rawG at h2
  cases hl:ZBQ k G13 with
  | none =>
   rw[hl] at h1;rw[if_neg (fun q=>by rw[decide_eq_true q] at h1;cases h1)];rfl
  | some p =>
   rw[hl] at h1 h2;rw[if_pos (of_decide_eq_true h1.symm)];exact congrArg some h2
 have hg3:h15.get b3=some (.cells [.map (some bm)] 112 false):=hO15.p2;refine zy ?_;refine ZB0 strK hE15 rfl rfl Und.h rfl hO15 fun h16 hW16 hO16 hE16=>?_;replace hE16:=hE15.trans hE16;generalize h15.nx=rr at hO16 ⊢;clear hg3 hO15 hE15;refine zy ?_;refine ZAN (fun (st:List (Str×Value)×List (Str×Option Addr×Nat)) m ds h'=>ds=[r13,r10,r7,r4].map .coll/\Ext h h'/\Own h h' (itI strK bm rr st.1 (st.2.map Prod.fst)::ceI b3 [.map (some bm)] 112 false::(st.2.map (fun d=>liI d.2.1 (nxtW s d.1))++(slG encT 9 1 h G13++(cloI b3 b4 :: [r13,r10,r7,r4].map fun r=>loI r .defd))))/\Once st.1/\(∀k,k ∉ st.2.map Prod.fst->lkp k st.1=lkp k (kvG G13))/\(∀d∈st.2,lkp d.1 st.1=some (.slice d.2.1 (nxtW s d.1).length d.2.2))/\(∀d∈st.2,d.1∈nodW s)/\(st.2.map Prod.fst).Nodup/\AllK m [(3,.pointer (some ⟨b3,0,none⟩)),(64,.pointer (some ⟨rr,0,none⟩))]) (fun st=>(nodW s).length-st.2.length) (kvG G13,[]) ?_ ?_
 ·exact⟨rfl,hE16,hO16,hokN.once,fun _ _=>rfl,(fun _ h=>nomatch h),(fun _ h=>nomatch h),.nil,rfl,rfl,trivial⟩
 clear hO16 hE16 hW16;rintro⟨gl,D⟩ m ds h5 ⟨rfl,hE5,hO5,hon,hl1,hl2,hl3,hnd,hall⟩;refine Wc.le ?_ (Le.kn hall);clear hall;simp only at hO5 hon hl1 hl2 hl3 hnd ⊢;have hlen:D.length<=(nodW s).length:=by
  have:=ZBH hnd (m:=nodW s) fun k hk=>by
   obtain⟨d,hd,rfl⟩:=List.mem_map.1 hk;exact hl3 d hd
  simpa using this
 refine zy ?_;refine ZCG strK hw hE5 rfl rfl rfl hon hO5 (fun hdone=>?_) fun k v h6 hlk hnk hC hO6 hE6=>?_
 ·refine zy ?_
  have hgb:h5.get b3=some (.cells [.map (some bm)] 112 false):=hO5.p2
  have hk1:∀k,(lkp k gl).isSome=decide (k∈nodW s):=fun k=>by
   by_cases hkD:k∈D.map Prod.fst
   ·obtain⟨d,hd,rfl⟩:=List.mem_map.1 hkD
    rw[hl2 d hd,decide_eq_true (hl3 d hd)];rfl
   ·have h1:=hl1 k hkD
    cases hq:lkp k gl with
    | some v=>exact absurd (hdone k v hq) hkD
    | none =>
     rw[hq,ZCl] at h1;have h2:=hmm k
     by_cases hn:k∈nodW s
     ·rw[if_pos hn] at h2
      cases hl:ZBQ k G13 with
      | none=>rw[hl] at h2;cases h2
      | some p=>rw[hl] at h1;cases h1
     ·rw[decide_eq_false hn];rfl
  have hk2:∀k∈nodW s,∃d∈D,d.1=k/\lkp k gl=some (.slice d.2.1 (nxtW s k).length d.2.2):=fun k hk=>by
   have hkD:k∈D.map Prod.fst:=by
    apply Classical.byContradiction;intro hkD;have h1:=hl1 k hkD;have h2:=hmm k;rw[if_pos hk] at h2
    cases hl:ZBQ k G13 with
    | none=>rw[hl] at h2;cases h2
    | some p =>
     rw[ZCl,hl] at h1;exact hkD (hdone k _ h1)
   obtain⟨d,hd,rfl⟩:=List.mem_map.1 hkD;exact⟨d,hd,rfl,hl2 d hd⟩
  have hOm:Own h h5 ([r13,r10,r7,r4].map (fun r=>loI r .defd)++(mapI strK bm gl::D.map fun d=>liI d.2.1 (nxtW s d.1))):=by
   have h1:Own h h5 (mapI strK bm gl::ceI b3 [.map (some bm)] 112 false::(D.map (fun d=>liI d.2.1 (nxtW s d.1))++(slG encT 9 1 h G13++(cloI b3 b4 :: [r13,r10,r7,r4].map fun r=>loI r .defd)))):=hO5.as (fun hp=>ZG1.mapB strK hp) fun c hc=>.inl hc;have h2:Own h h5 (mapI strK bm gl::(D.map (fun d=>liI d.2.1 (nxtW s d.1))++[r13,r10,r7,r4].map fun r=>loI r .defd)):=h1.sub (List.Sublist.cons_cons _ (List.Sublist.cons _ (List.Sublist.append (List.Sublist.refl _) (List.sublist_append_of_sublist_right (List.Sublist.cons _ (List.Sublist.refl _))))));exact h2.perm (List.perm_append_comm (l₁:=mapI strK bm gl::D.map fun d=>liI d.2.1 (nxtW s d.1)))
  have hcl:ZCr h h5 [r13,r10,r7,r4]:=hOm.colls;refine zy ?_;exact ZAC (ZJz hcl.nd hcl.defd rfl ⟨hcl.ext0 hE5 hw,bm,rfl,gl,D,hOm.del,hon,hk1,hk2⟩)
 have hlk0:=hl1 k hnk;rw[hlk,ZCl] at hlk0;obtain⟨v2,l,hlg⟩:∃v2 l,ZBQ k G13=some (v2,l):=by
  cases hl:ZBQ k G13 with
  | none=>rw[hl] at hlk0;cases hlk0
  | some p=>exact⟨p.1,p.2,rfl⟩
 have hmk:=hmm k;rw[hlg] at hlk0 hmk;cases hlk0;have hkn:k∈nodW s:=by
  apply Classical.byContradiction;intro q;rw[if_neg q] at hmk;cases hmk
 rw[if_pos hkn] at hmk;obtain rfl:l=adjR (edgW s) k:=Option.some.inj hmk;have hll:(adjR (edgW s) k).length<=800:=by
  have:=ZJl (edgW s) k;have:=ZHI s;omega
 have hsl:=hO6.has _ (List.mem_cons_of_mem _ (List.mem_cons_of_mem _ (List.mem_append_right _ (List.mem_append_left _ (ZHS encT 9 1 (h0:=h) hlg)))));have hem:(adjR (edgW s) k).flatMap encT=(adjR (edgW s) k).map str:=by
  generalize adjR (edgW s) k=q
  induction q with
  | nil=>rfl
  | cons x r ih=>rw[List.map_cons,<-ih];rfl
 obtain⟨av,ev,hSv,hnv⟩:=ZAF.rowsAt (enc:=encT) (k:=1) (fun _=>rfl) (show ZAF h h6 v2 _ _ _ _ from hsl) rfl;obtain⟨av',ev',-,hSrc⟩:=ZAF.srcAt (enc:=str) (show ZAF h h6 v2 9 1 ((adjR (edgW s) k).map str) _ by rw[<-hem];exact hsl);rw[ev] at ev';cases ev';subst ev;have hgb:h6.get b3=some (.cells [.map (some bm)] 112 false):=hO6.p2;refine zy ?_;refine ZDk strK rfl rfl rfl hC ?_;refine zy ?_;have hsv:=ZJ2 (cap:=(adjR (edgW s) k).length) hSrc (fun e=>⟨hnv e,by rw[hnv e];rfl⟩) (by omega);refine ZBR fun hw6=>?_;refine ZAL hmix [0,0,0,4,15] [0,1,2] (some 3) [([],(some 4)),([],none)] (by kernel_rfl) (by kernel_rfl) ?_
 refine z_l ?_;refine z_m ?_;refine z_m ?_;refine ZAI [2] (by kernel_rfl) rfl (ZAA rfl) rfl nb rfl (ZAu (ZBJ rfl rfl rfl rfl rfl Bod.h hsv (fun v7 h7 hR7 hw7=>?_)));obtain⟨hE7,a7,c7,rfl,hS7,hb7⟩:=hR7;have hg7:=hE7.get hgb
 have hlist:ZAi str h7 a7 (nxtW s k):=fun i hi=>by
  obtain⟨b,o,oa,e,row,hrow,hx⟩:=hS7.1 i hi;have hx2:row=encT ((nxtW s k)[i]):=hx;refine⟨b,o,oa,e,?_⟩;have:=ZAK (k:=0) (v:=str ((nxtW s k)[i])) hrow (by rw[hx2];rfl)
  rwa [Nat.add_zero] at this
 have hO8:Own h h7 (itI strK bm rr gl (k::D.map Prod.fst)::liI a7 (nxtW s k)::ceI b3 [.map (some bm)] 112 false::_):=(hO6.new (y:=liI a7 (nxtW s k)) hw6 hE6.2.1 hE7 hlist fun c hc=>by
  obtain⟨-,o,oa,e⟩:=hc;exact hb7 c o oa e).up2
 have hE67:=hE6.trans hE7;refine ZAI [0,1,2,3] (by kernel_rfl) rfl (by refine t_m 1 ?_;refine t_l 0 ?_;exact ZAA rfl) rfl nb rfl (ZAu (ZJQ strK (k:=k) (v:=.slice a7 (nxtW s k).length c7) (v0:=_) rfl hw hE67 rfl Und.h rfl hO8 hlk rfl rfl (fun h8 hO9 hE9 hw9=>?_)));refine ZAO (ZAA rfl) nb' ?_;refine zy ?_;have hnd':(k::D.map Prod.fst).Nodup:=List.nodup_cons.2 ⟨hnk,hnd⟩;have hlt:D.length+1<=(nodW s).length:=by
  have:=ZBH hnd' (m:=nodW s) fun k' hk'=>by
   rcases List.mem_cons.1 hk' with rfl|hk'
   ·exact hkn
   ·obtain⟨d,hd,rfl⟩:=List.mem_map.1 hk'
    exact hl3 d hd
  simpa using this
 refine⟨(setK k (.slice a7 (nxtW s k).length c7) gl,(k,a7,c7)::D),(by show (nodW s).length-(D.length+1)<(nodW s).length-D.length;omega),rfl,hE9,hO9.perm (List.Perm.cons _ (List.Perm.swap _ _ _)),hon.set,fun k' hk'=>?_,fun d hd=>?_,fun d hd=>?_,hnd',rfl,rfl,trivial⟩
 ·have hk2:k' ∉ k::D.map Prod.fst:=hk'
  rw[List.mem_cons] at hk2;rw[ZBw,if_neg fun e=>hk2 (.inl e)];exact hl1 k' fun e=>hk2 (.inr e)
 ·rcases List.mem_cons.1 hd with rfl|hd
  ·rw[ZBw,if_pos rfl]
  ·rw[ZBw,if_neg fun e=>hnk (List.mem_map.2 ⟨d,hd,e⟩)]
   exact hl2 d hd
 ·rcases List.mem_cons.1 hd with rfl|hd
  ·exact hkn
  ·exact hl3 d hd
def revI (l:List Str)(i:Nat):List Str:=(List.range l.length).map fun t=>if t<i\/l.length-i<=t then l.getD (l.length-1-t) [] else l.getD t []
theorem ZEk (l:List Str)(i:Nat):(revI l i).length=l.length:=by unfold revI;simp
theorem ZEc {l:List Str}{i t:Nat}(ht:t<l.length):(revI l i)[t]?=some (if t<i\/l.length-i<=t then l.getD (l.length-1-t) [] else l.getD t []):=by
 unfold revI;rw[List.getElem?_map,List.getElem?_range ht];rfl
theorem ZPw {l:List Str}{t:Nat}(ht:t<l.length):l[t]?=some (l.getD t []):=by
 rw[List.getD_eq_getElem?_getD,List.getElem?_eq_getElem ht];rfl
theorem ZPj (l:List Str):revI l 0=l:=by
 apply List.ext_getElem?;intro t
 rcases Nat.lt_or_ge t l.length with q|q
 ·rw[ZEc q,if_neg (by omega),ZPw q]
 ·rw[List.getElem?_eq_none (by rw[ZEk];exact q),List.getElem?_eq_none q]
theorem ZQB {l:List Str}{i:Nat}(h:l.length<=2*i+1):revI l i=l.reverse:=by
 apply List.ext_getElem?;intro t
 rcases Nat.lt_or_ge t l.length with q|q
 ·rw[ZEc q,List.getElem?_reverse q,ZPw (by omega)]
  congr 1
  by_cases e:t<i\/l.length-i<=t
  ·rw[if_pos e]
  ·rw[if_neg e]
   have:t=l.length-1-t:=by omega
   rw[<-this]
 ·rw[List.getElem?_eq_none (by rw[ZEk];exact q),List.getElem?_eq_none (by simpa using q)]
theorem ZPU {l:List Str}{i:Nat}(h:2*i+1<l.length):((revI l i).set i (l.getD (l.length-1-i) [])).set (l.length-1-i) (l.getD i [])=revI l (i+1):=by
 apply List.ext_getElem?;intro t
 rcases Nat.lt_or_ge t l.length with q|q
 ·rw[ZEc q,List.getElem?_set,List.getElem?_set,List.length_set,ZEk,ZEc q]
  by_cases e1:l.length-1-i=t
  ·rw[if_pos e1,if_pos (by omega)]
   congr 1
   rw[if_pos (by omega)]
   congr 1
   omega
  ·rw[if_neg e1]
   by_cases e2:i=t
   ·rw[if_pos e2,if_pos (by omega),if_pos (by omega),e2]
   ·rw[if_neg e2]
    congr 1
    by_cases e3:t<i\/l.length-i<=t
    ·rw[if_pos e3,if_pos (by omega)]
    ·rw[if_neg e3,if_neg (by omega)]
 ·rw[List.getElem?_eq_none (by rw[List.length_set,List.length_set,ZEk];exact q),List.getElem?_eq_none (by rw[ZEk];exact q)]
theorem ZIa {h0 h:Heap}{v:Value}{l:List Str}{n:Nat}(hF:ZAF h0 h v 9 1 (l.map str) n)(hn:n<1000000) :
  Sv Tryz.prog 90 [v] h (RetP fun _ h'=>ZAF h0 h' v 9 1 (l.reverse.map str) n/\Exb (fun c=>ZBM v=some c) h h'):=by
 rcases hF with ⟨rfl,hcs,rfl⟩|⟨b,sp,op,rfl,hg,hlen,hb0,hsp⟩
 ·have:l=[]:=by simpa using hcs
  subst this;refine ZAG Tryz.func90 rfl (by rw[Tryz.ntmps90];rfl) ?_;show Wc Tryz.prog ⟨90,28,none⟩ _ _ _ _ _;refine zy ?_;refine ZAN (fun (_:Unit) m ds h'=>ds=[]/\h'=h/\AllK m [(2,i64 0),(3,i64 (-1))]) (fun _=>0) () ?_ ?_
  ·exact⟨rfl,rfl,rfl,rfl,trivial⟩
  rintro _ m ds h1 ⟨rfl,rfl,hall⟩;refine Wc.le ?_ (Le.kn hall);refine zy ?_;refine zD (A_ff (by omega) (ZAU rfl rfl)) ?_;exact ZAz rfl ⟨.nil _ _ _ _,Exb.refl _ _⟩
 have hln:n=l.length:=by simpa using hlen.symm
 subst hln;refine ZAG Tryz.func90 rfl (by rw[Tryz.ntmps90];rfl) ?_;show Wc Tryz.prog ⟨90,28,none⟩ _ _ _ _ _;refine zy ?_;refine ZAN (fun (i:Nat) m ds h'=>ds=[]/\2*i<=l.length+1/\Exb (fun c=>c=b) h h'/\h'.get b=some (.cells ((revI l i).map str) 9 op)/\∃z:Int,z=(l.length:Int)-1-i/\AllK m [(0,.slice (some ⟨b,0,sp⟩) l.length l.length),(2,i64 (i:Nat)),(3,i64 z)]) (fun i=>l.length-i) 0 ?_ ?_
 ·exact⟨rfl,by omega,Exb.refl _ _,by rw[ZPj];exact hg,_,rfl,rfl,rfl,(by show _=some (i64 ((l.length:Int)-1-(0:Nat)));rw[show (l.length:Int)-1-(0:Nat)=(l.length:Int)-1 by omega];rfl),trivial⟩
 rintro i m ds h1 ⟨rfl,hi,hX,hg1,z,hz,hall⟩;refine Wc.le ?_ (Le.kn hall);clear hall;refine zy ?_;refine zC (ZAU rfl rfl) (fun hil=>?_) (fun hil=>?_);rotate_left
 ·rw[ZQB (by omega)] at hg1
  refine zy ?_;exact ZAz rfl ⟨.inr ⟨b,sp,op,rfl,hg1,by simp,hb0,hsp⟩,hX.mono fun c hc=>by rw[show c=b from hc];rfl⟩
 have h2i:2*i+1<l.length:=by omega
 have hzk:z=((l.length-1-i:Nat):Int):=by omega
 have hstep:=ZPU h2i;have hc1:ZAS h1 b (0+i*1)=some (str (l.getD i [])):=ZAb hg1 (by rw[ZAv,Nat.zero_add,Nat.mul_one,List.getElem?_map,ZEc (by omega),if_neg (by omega)];rfl);have hc2:ZAS h1 b (0+(l.length-1-i)*1)=some (str (l.getD (l.length-1-i) [])):=ZAb hg1 (by rw[ZAv,Nat.zero_add,Nat.mul_one,List.getElem?_map,ZEc (by omega),if_neg (by omega)];rfl);have hsz:((revI l i).map str).length=l.length:=by rw[List.length_map,ZEk]
 generalize hx:l.getD i []=x at *;generalize hy:l.getD (l.length-1-i) []=y at *;refine zy ?_;refine ZAL hmix [0,0,0,0,0,0,48,112,0,0,768,1792,4083,8179,16383,32767] [0,1,2,3,4,5,6,7,8,9,10,11,12] (some 13) [([14],(some 15)),([],none)] (by kernel_rfl) (by kernel_rfl) ?_;refine z_m ?_;refine z_m ?_;refine z_m ?_;refine z_m ?_;refine z_m ?_;refine z_m ?_;refine ZAB rfl rfl rfl rfl rfl (fun _=>ZAE (k:=l.length-1-i) (z:=z) Und.h Tsz.h rfl rfl hzk (by omega)) ?_;refine z_l ?_;refine z_m ?_;refine z_m ?_;refine ZAB rfl rfl rfl rfl rfl (fun _=>ZAE (k:=i) Und.h Tsz.h rfl rfl rfl (by omega)) ?_;refine z_l ?_;refine ZAB rfl rfl rfl rfl rfl (fun _=>ZAE (k:=i) Und.h Tsz.h rfl rfl rfl (by omega)) ?_
 refine ZAI [0,1,4,5,6,7,8,9,10,11,12] (by kernel_rfl) rfl (ZAA rfl) rfl nb rfl (ZA1 rfl rfl Tsz.h rfl rfl hg1 rfl rfl (ZCH (by rw[hsz];omega)) (fun h2 hU2=>?_));refine ZAB rfl rfl rfl rfl rfl (fun _=>ZAE (k:=l.length-1-i) (z:=z) Und.h Tsz.h rfl rfl hzk (by omega)) ?_;refine ZAI [0,1,2,3,4,5,6,7,8,9,10,11,12,13,14] (by kernel_rfl) rfl (by refine t_m 3 ?_;refine t_m 2 ?_;exact ZAA rfl) rfl nb rfl (ZA1 rfl rfl Tsz.h rfl rfl hU2.at' rfl rfl (ZCH (by rw[List.length_set,hsz];omega)) (fun h3 hU3=>?_));refine ZAO (ZAA rfl) nb' ?_;have hg3:=hU3.at';rw[Nat.zero_add,Nat.mul_one,Nat.zero_add,Nat.mul_one,<-List.map_set,<-List.map_set,hstep] at hg3
 refine zy ?_;exact⟨i+1,(by show l.length-(i+1)<l.length-i;omega),rfl,by omega,(hX.upd hU2 rfl).upd hU3 rfl,hg3,z-1,by omega,rfl,rfl,rfl,trivial⟩
abbrev kvQ (e:QE):Str×Value:=(e.1,str e.2)
theorem ZE6 (k:Str):∀Q:List QE,lkp k (Q.map kvQ)=(prdQ Q k).map str
 | []=>rfl
 | e::Q=>by
  show lkp k ((e.1,str e.2)::Q.map kvQ)=_
  unfold lkp prdQ
  by_cases h:k=e.1
  ·rw[if_pos h,List.find?_cons_of_pos (by simp[h])];rfl
  ·rw[if_neg h,List.find?_cons_of_neg (by simp[Ne.symm h])]
   exact ZE6 k Q
theorem ZO6 {Q:List QE}{k:Str}(h:k ∉ Q.map Prod.fst):prdQ Q k=none:=by
 unfold prdQ;rw[List.find?_eq_none.2 fun e he q=>h (List.mem_map.2 ⟨e,he,of_decide_eq_true q⟩)];rfl
theorem ZRR {a:Str}{Q:List QE}(h:QOK a Q){k:Str}(hk:k∈Q.map Prod.fst):∃p,prdQ Q k=some p:=by
 obtain⟨e,he,rfl⟩:=List.mem_map.1 hk;obtain⟨j,hj,rfl⟩:=List.getElem_of_mem he;exact⟨_,ZHO h (List.getElem?_eq_getElem hj)⟩
theorem ZKO {s:List WkR}{k z:Str}(h:z∈nxtW s k):z∈nodW s:=by
 unfold nodW;refine List.mem_append_left _ (List.mem_append_left _ (ZHA.2 ?_))
 rcases ZFf.1 h with q|q
 ·exact⟨_,q,.inr rfl⟩
 ·exact⟨_,q,.inl rfl⟩
theorem ZIp (s:List WkR)(k:Str):(nxtW s k).Nodup:=by
 have h:=ZEF ZAR (adjR (edgW s) k);exact h.imp fun {x y} (hxy:ltB x y) (e:x=y)=>by rw[e] at hxy;exact ZAR.irr _ hxy
set_option maxHeartbeats 4000000 in
theorem ZS2 {bm:Nat}{s:List WkR}{a b:Str}{h:Heap}(hWb:ZQT h bm s)(ha:a∈nodW s)(hne:∀k∈nodW s,k≠[])(hls:(nodW s).length<=10000) :
  Sv Tryz.prog 50 [.map (some bm),str a,str b] h (RetP fun v h'=>Ext h h'/\ZAF h h' v 9 1 ((ZGq (nxtW s) a b (nodW s).length).map str) (ZGq (nxtW s) a b (nodW s).length).length/\(v=.slice none 0 0\/ZGq (nxtW s) a b (nodW s).length≠[])):=by
 refine ZA5 fun hw=>?_;generalize hN:(nodW s).length=N at *;have hbi:∀i,∀e∈bfsQ (nxtW s) a i,e.1∈nodW s:=fun i=>ZQO (N:=fun k=>k∈nodW s) ha (fun v _ z hz=>ZKO hz) i
 have hbl:∀{Q:List QE},QOK a Q->(∀e∈Q,e.1∈nodW s)->Q.length<=N:=fun {Q} hq hin=>by
  have:=ZBH hq.nd (m:=nodW s) fun k hk=>by
   obtain⟨e,he,rfl⟩:=List.mem_map.1 hk;exact hin e he
  rw[List.length_map,hN] at this;exact this
 refine ZAG Tryz.func50 rfl (by rw[Tryz.ntmps50];rfl) ?_;show Wc Tryz.prog ⟨50,76,none⟩ _ _ _ _ _;refine zy ?_;refine ZCe rfl rfl fun h1 hE1 hW1 hg1 hn1=>?_;have hO1:=(Own.nil h h).newMap (K:=strK) hw (Nat.le_refl _) hE1 hg1 (Nat.le_refl _);generalize h.nx=bq at hO1 hg1 ⊢;refine zy ?_;refine ZOK strK (k:=a) (v:=str []) hw hE1 rfl Und.h rfl hO1 rfl rfl fun h2 hW2 hO2 hE2=>?_;refine zy ?_;refine ZBg rfl rfl Und.h Tsz.h Zr.h rfl rfl rfl rfl rfl fun h3 hE3 hW3 hg3 hn3=>?_;have hO3:=hO2.newSl hW2 hE2.2.1 hE3 (ZAF.lit (h0:=h2) (n:=1) (sz:=1) hg3 rfl (Nat.le_refl _));replace hE3:=hE2.trans hE3;refine zy ?_
 clear hg1 hg3 hn3 hn1 hO2 hO1 hE1 hE2 hW1 hW2 hW3;refine ZAN (fun (st:Nat×Value) m ds h'=>ds=[]/\Ext h h'/\st.1<=(bfsQ (nxtW s) a st.1).length/\Own h h' [slI h st.2 9 1 (((bfsQ (nxtW s) a st.1).map Prod.fst).map str) (bfsQ (nxtW s) a st.1).length,mapI strK bq ((bfsQ (nxtW s) a st.1).map kvQ)]/\b ∉ ((bfsQ (nxtW s) a st.1).take st.1).map Prod.fst/\AllK m [(0,.map (some bm)),(1,str a),(2,str b),(7,.map (some bq)),(8,st.2),(9,i64 (st.1:Nat))]) (fun st=>N-st.1) (0,.slice (some ⟨h2.nx,0,none⟩) 1 1) ?_ ?_
 ·exact⟨rfl,hE3,Nat.zero_le _,hO3,by simp,rfl,rfl,rfl,rfl,rfl,rfl,trivial⟩
 clear hO3 hE3;rintro⟨i,vq⟩ m ds h4 ⟨rfl,hE4,hi,hO4,hnb,hall⟩;refine Wc.le ?_ (Le.kn hall);clear hall;simp only at hi hO4 hnb ⊢;have hQ:=QOK.bfs (nxtW s) a i;have hin:=hbi i;have hQl:=hbl hQ hin;have hnone:=ZOl (b:=b) (n:=N) (i:=i) (nxt:=nxtW s) (a:=a);have hfound:=@ZME (nxtW s) a b i N
 have hsucc:bfsQ (nxtW s) a (i+1)=match (bfsQ (nxtW s) a i)[i]? with|none=>bfsQ (nxtW s) a i|some e=>ZS0 (nxtW s) (bfsQ (nxtW s) a i) e.1:=rfl
 generalize bfsQ (nxtW s) a i=Q at *;obtain⟨av,ev,-,hLi⟩:=ZAF.srcAt (show ZAF h h4 vq 9 1 ((Q.map Prod.fst).map str) Q.length from hO4.p1);rw[List.length_map] at ev;subst ev;refine zy ?_;refine zC (ZAU rfl rfl) (fun hil=>?_) (fun hil=>?_);rotate_left
 ·have hiQ:i=Q.length:=by omega
  refine zy ?_;have hp:=hnone (by omega) (by omega) (by rw[hiQ,List.take_length] at hnb;exact hnb);exact ZAC (ZAD rfl ⟨hE4,by rw[hp];exact .nil _ _ _ _,.inl rfl⟩)
 have hi':i<Q.length:=by omega
 obtain⟨e,he⟩:∃e,Q[i]?=some e:=⟨Q[i],List.getElem?_eq_getElem hi'⟩;have hgi:Q[i]=e:=by rw[List.getElem?_eq_getElem hi'] at he;exact Option.some.inj he
 obtain⟨bv,ov,oav,rfl,hcell⟩:=hLi.1 i (by rw[List.length_map];exact hi');rw[List.getElem_map,hgi] at hcell;rw[he] at hsucc;simp only at hsucc;have hevn:e.1∈nodW s:=hin e (List.mem_of_getElem? he);refine zy ?_;refine zD (A_ix Und.h Tsz.h rfl rfl) ?_
 by_cases hb:e.1=b
 ·refine zE (A_tt hb (ZBB rfl rfl)) ?_
  have hf:=fun f hf=>hfound (by omega) (j:=i) (e:=e) he hb (f:=f) hf;refine zy ?_;refine ZAN (fun (st:List Str×Str×Nat×Value) m ds h'=>ds=[]/\Ext h h'/\Own h h' [slI h st.2.2.2 9 1 (st.1.map str) st.1.length,mapI strK bq (Q.map kvQ)]/\st.1++ZCx Q st.2.2.1 st.2.1=ZCx Q (Q.length+1) b/\(st.2.1=[]\/∃j e,Q[j]?=some e/\e.1=st.2.1/\j+2<=st.2.2.1)/\st.1.length+st.2.2.1<=Q.length+1/\AllK m [(7,.map (some bq)),(10,st.2.2.2),(11,str st.2.1)]) (fun st=>st.2.2.1) ([],b,Q.length+1,.slice none 0 0) ?_ ?_
  ·exact⟨rfl,hE4,hO4.tail.nilSl _ _,rfl,.inr ⟨i,e,he,hb,by show i+2<=Q.length+1;omega⟩,by simp,rfl,rfl,rfl,trivial⟩
  clear hO4 hcell hE4 hLi;rintro⟨l,c,f,vl⟩ m ds h5 ⟨rfl,hE5,hO5,hbk,hc,hlf,hall⟩;refine Wc.le ?_ (Le.kn hall);clear hall;simp only at hO5 hbk hc hlf ⊢;refine zy ?_
  by_cases hc0:c=[]
  ·subst hc0
   refine zE (A_ff (by simp) (ZA6 rfl rfl)) ?_;have hb0:ZCx Q f []=[]:=by cases f <;> simp[ZCx]
   rw[hb0,List.append_nil] at hbk;refine zy ?_;refine zR (ZIa (show ZAF h h5 vl 9 1 (l.map str) l.length from hO5.p1) (by omega)) ?_;rintro _ h6 ⟨hF6,hX6⟩;have hE6:Ext h h6:=hO5.grows hX6 hE5 hw;refine zy ?_;have hp:=hf (Q.length+1) (by omega);rw[<-hbk] at hp
   exact ZAC (ZAD rfl ⟨hE6,by rw[hp,List.length_reverse];exact hF6,.inr (by
    rw[hp];intro q;have q2:l=[]:=by simpa using q
    rw[q2,ZCx,if_neg (by rw[<-hb];exact hne _ hevn)] at hbk;cases hbk)⟩)
  obtain⟨j,e2,hj,rfl,hjf⟩:=hc.resolve_left hc0;obtain⟨f,rfl⟩:∃f',f=f'+1:=⟨f-1,by omega⟩;have hpr:=ZHO hQ hj;have hstep:ZCx Q (f+1) e2.1=e2.1::ZCx Q f e2.2:=by
   rw[ZCx,if_neg hc0,hpr];rfl
  rw[hstep] at hbk;have hnxt:e2.2=[]\/∃j e,Q[j]?=some e/\e.1=e2.2/\j+2<=f:=by
   cases j with
   | zero =>
    have:=hQ.hd;rw[hj] at this;cases this;exact .inl rfl
   | succ j =>
    obtain⟨k,e',h1,h2,h3⟩:=hQ.ld _ e2 hj (Nat.succ_pos _);exact .inr ⟨k,e',h2,h3,by omega⟩
  refine zD (A_tt hc0 (ZA6 rfl rfl)) ?_;refine ZBg rfl rfl Und.h Tsz.h Zr.h rfl rfl rfl rfl rfl fun h6 hE6 hW6 hg6 hn6=>?_;refine zy ?_;refine ZAo (k:=1) (l:=[str e2.1]) hw (hE5.trans hE6) rfl rfl rfl rfl rfl Und.h inferInstance rfl rfl (hO5.ext hE6) (ZAs Und.h (by intro k;simp) (ZAP hg6 rfl)) rfl rfl (by omega) (by omega) fun v7 h7 hW7 hO7 hE7=>?_;have hmp:MapB strK h7 bq (Q.map kvQ):=hO7.p2;have hlk:lkp e2.1 (Q.map kvQ)=some (str e2.2):=by rw[ZE6,hpr];rfl
  refine zy ?_;refine zD (ZBN strK (k:=e2.1) (v:=str e2.2) Und.h Zr.h rfl hmp rfl (by rw[hlk];rfl)) ?_;refine⟨(l++[e2.1],e2.2,f,v7),Nat.lt_succ_self f,rfl,hE7,?_,?_,hnxt,?_,rfl,rfl,rfl,trivial⟩
  ·simp only[List.map_append,List.map_cons,List.map_nil,List.length_append,List.length_singleton]
   exact hO7
  ·simp only[List.append_assoc,List.singleton_append]
   exact hbk
  ·simp only[List.length_append,List.length_singleton];omega
 refine zE (A_ff hb (ZBB rfl rfl)) ?_;clear hfound hnone;obtain⟨gl,hm1,hm2,hm3,hm4⟩:=hWb;obtain⟨ax,cx,hlx,hLx⟩:=hm4 e.1 hevn;have hnx0:(nxtW s e.1).length<=N:=by
  have:=ZBH (ZIp s e.1) (m:=nodW s) fun z hz=>ZKO hz;omega
 have hstepQ:ZS0 (nxtW s) Q e.1=(nxtW s e.1).foldl (addQ e.1) Q:=rfl;have hzn:∀z∈nxtW s e.1,z∈nodW s:=fun z hz=>ZKO hz;rw[hstepQ] at hsucc;generalize nxtW s e.1=ns at *;refine zy ?_;refine zD (A_ix Und.h Tsz.h rfl rfl) ?_;refine zD (ZBN strK (k:=e.1) (v:=.slice ax ns.length cx) Und.h Zr.h rfl (hm1.ext strK hE4) rfl (by rw[hlx];rfl)) ?_;refine ZAN (fun (st:Nat×Value) m ds h'=>ds=[]/\Ext h h'/\st.1<=ns.length/\Own h h' [slI h st.2 9 1 ((((ns.take st.1).foldl (addQ e.1) Q).map Prod.fst).map str) ((ns.take st.1).foldl (addQ e.1) Q).length,mapI strK bq (((ns.take st.1).foldl (addQ e.1) Q).map kvQ)]/\AllK m [(0,.map (some bm)),(1,str a),(2,str b),(7,.map (some bq)),(8,st.2),(9,i64 (i:Nat)),(51,.slice ax ns.length cx),(52,i64 ns.length),(53,i64 (st.1:Nat))]) (fun st=>ns.length-st.1) (0,.slice (some ⟨bv,ov,oav⟩) Q.length Q.length) ?_ ?_
 ·exact⟨rfl,hE4,Nat.zero_le _,by rw[List.take_zero];simpa using hO4,rfl,rfl,rfl,rfl,rfl,rfl,rfl,rfl,rfl,trivial⟩
 clear hO4 hcell hE4 hLi;rintro⟨j,vq⟩ m ds h5 ⟨rfl,hE5,hj,hO5,hall⟩;refine Wc.le ?_ (Le.kn hall);clear hall;simp only at hj hO5 ⊢;have hem:e.1∈Q.map Prod.fst:=List.mem_map.2 ⟨e,List.mem_of_getElem? he,rfl⟩;have hQ':QOK a ((ns.take j).foldl (addQ e.1) Q):=QOK.fold _ hQ hem;have hin':∀e'∈(ns.take j).foldl (addQ e.1) Q,e'.1∈nodW s:=ZMR (N:=fun k=>k∈nodW s) _ hin fun z hz=>hzn z (List.mem_of_mem_take hz);have hQl':=hbl hQ' hin';obtain⟨R,hpre⟩:=ZG6 e.1 (ns.take j) Q;refine zy ?_;refine zC (ZAU rfl rfl) (fun hjl=>?_) (fun hjl=>?_);rotate_left
 ·have hjn:j=ns.length:=by omega
  subst hjn;rw[List.take_length] at hO5 hpre;rw[<-hsucc] at hO5 hpre;refine zy ?_;refine⟨(i+1,vq),(by show N-(i+1)<N-i;omega),rfl,hE5,?_,hO5,?_,rfl,rfl,rfl,rfl,rfl,rfl,trivial⟩
  ·simp only[hpre,List.length_append];omega
  ·simp only[hpre]
   rw[List.take_append_of_le_length (by omega),List.take_add_one,he,List.map_append,List.mem_append];rintro (q|q)
   ·exact hnb q
   ·simp at q
    exact hb q.symm
 have hj':j<ns.length:=by omega
 have htk:ns.take (j+1)=ns.take j++[ns[j]]:=by rw[List.take_add_one,List.getElem?_eq_getElem hj'];rfl
 obtain⟨bx,ox,oax,rfl,hcx0⟩:=hLx j hj';have hcx:=hE5.cell hcx0;have hzm:=hzn _ (List.getElem_mem hj');have hfold:(ns.take (j+1)).foldl (addQ e.1) Q=addQ e.1 ((ns.take j).foldl (addQ e.1) Q) ns[j]:=by rw[htk,List.foldl_append];rfl
 generalize ns[j]=z at *;have hei:((ns.take j).foldl (addQ e.1) Q)[i]?=some e:=by rw[hpre,List.getElem?_append_left hi'];exact he
 generalize (ns.take j).foldl (addQ e.1) Q=Q' at *;have hi2:i<Q'.length:=(List.getElem?_eq_some_iff.1 hei).1;obtain⟨av',ev',-,hLi'⟩:=ZAF.srcAt (show ZAF h h5 vq 9 1 ((Q'.map Prod.fst).map str) Q'.length from hO5.p1);rw[List.length_map] at ev';subst ev';have hmp:MapB strK h5 bq (Q'.map kvQ):=hO5.p2;refine zy ?_;refine zD (A_ix Und.h Tsz.h rfl rfl) ?_
 by_cases hz:z∈Q'.map Prod.fst
 ·obtain⟨p,hp⟩:=ZRR hQ' hz
  refine zD (ZAZ strK (k:=z) (v:=str p) (q:=true) Und.h Zr.h rfl hmp rfl (by rw[ZE6,hp];rfl) (by rw[ZE6,hp];rfl)) ?_;refine⟨(j+1,_),(by show ns.length-(j+1)<ns.length-j;omega),rfl,hE5,hj',?_,rfl,rfl,rfl,rfl,rfl,rfl,rfl,rfl,rfl,trivial⟩;simp only[hfold,addQ,if_pos hz];exact hO5
 ·have hp:=ZO6 hz
  refine zE (ZAZ strK (k:=z) (v:=str []) (q:=false) Und.h Zr.h rfl hmp rfl (by rw[ZE6,hp];rfl) (by rw[ZE6,hp];rfl)) ?_;have hgi':Q'[i]=e:=by rw[List.getElem?_eq_getElem hi2] at hei;exact Option.some.inj hei
  obtain⟨bw,ow,oaw,rfl,hcw⟩:=hLi'.1 i (by rw[List.length_map];exact hi2);rw[List.getElem_map,hgi'] at hcw;refine zy ?_;refine zD (A_ix Und.h Tsz.h rfl rfl) ?_;refine ZAy strK (k:=z) (v:=str e.1) hw hE5 rfl Und.h rfl hO5.up2 rfl rfl fun h6 hW6 hO6 hE6=>?_;have hset:setK z (str e.1) (Q'.map kvQ)=(Q'++[(z,e.1)]).map kvQ:=by
   rw[ZHs (by rw[ZE6,hp];rfl),List.map_append];rfl
  rw[hset] at hO6;refine zy ?_;refine ZBg rfl rfl Und.h Tsz.h Zr.h rfl rfl rfl rfl rfl fun h7 hE7 hW7 hg7 hn7=>?_;refine zy ?_;refine ZAo (k:=1) (l:=[str z]) hw (hE6.trans hE7) rfl rfl rfl rfl rfl Und.h inferInstance rfl rfl (hO6.ext hE7).up2 (ZAs Und.h (by intro k;simp) (ZAP hg7 rfl)) rfl rfl (by omega) (by omega) fun v8 h8 hW8 hO8 hE8=>?_;refine zy ?_;refine⟨(j+1,v8),(by show ns.length-(j+1)<ns.length-j;omega),rfl,hE8,hj',?_,rfl,rfl,rfl,rfl,rfl,rfl,rfl,rfl,rfl,trivial⟩;simp only[hfold,addQ,if_neg hz,List.map_append,List.length_append,List.map_cons,List.map_nil,List.length_singleton] at hO8 ⊢
  exact hO8
end Go.Dw
