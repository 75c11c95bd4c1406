/- F1: contracts: strings.HasPrefix, CutPrefix; Same. -/
import Derived.Test.YtdfadhkbhbbabaaGreatDoorAG2
import Derived.Test.YtdfadhkbhbbabaaGreatDoorAG19
import Derived.Test.YtdfadhkbhbbabaaGreatDoorAG15
set_option linter.unusedVariables false
set_option linter.unusedSimpArgs false
namespace Go.Dw
open Go Go.Dx Go.Proofs
set_option maxRecDepth 100000
theorem ZLO {l p:Str}{h:Heap}(hl:Len l)(hp:Len p):Sv Tryz.prog 89 [str l,str p] h (RetP fun v h'=>v=.bool (decide (l.take p.length=p))/\h'=h):=by
 refine ZAG Tryz.func89 rfl (by rw[Tryz.ntmps89];rfl) ?_;show Wc Tryz.prog ⟨89,18,none⟩ _ _ _ _ _;refine zy ?_
 by_cases hle:p.length<=l.length
 rotate_left
 ·refine zD (A_ff (by omega) (ZFD rfl rfl)) ?_
  have:¬l.take p.length=p:=fun e=>by
   have:=congrArg List.length e;rw[List.length_take] at this;omega
  exact ZAC (ZAD rfl ⟨by rw[decide_eq_false this];rfl,rfl⟩)
 refine zD (A_tt (by omega) (ZFD rfl rfl)) ?_;refine zD (ZFs (k:=p.length) Und.h rfl rfl rfl hle) ?_;refine zD (ZBB rfl rfl) ?_;exact ZAC (ZAD rfl ⟨rfl,rfl⟩)
theorem ZLf {l p:Str}{h:Heap}(hl:Len l)(hp:Len p):Sv Tryz.prog 49 [str l,str p] h (RetP fun v h'=>v=.bool (decide (l.take p.length=p))/\h'=h):=by
 refine ZAG Tryz.func49 rfl (by rw[Tryz.ntmps49];rfl) ?_;show Wc Tryz.prog ⟨49,8,none⟩ _ _ _ _ _;refine zy ?_;refine zV (ZLO hl hp) ?_;exact ZAC (ZAD rfl ⟨rfl,rfl⟩)
def cutP (l p:Str):Str×Bool:=if l.take p.length=p then (l.drop p.length,true) else (l,false)
theorem ZQg {l p:Str}{h:Heap}(hl:Len l)(hp:Len p):Sv Tryz.prog 88 [str l,str p] h (RetP fun v h'=>v=.tuple ⟨[str (cutP l p).1,.bool (cutP l p).2]⟩/\h'=h):=by
 unfold cutP;refine ZAG Tryz.func88 rfl (by rw[Tryz.ntmps88];rfl) ?_;show Wc Tryz.prog ⟨88,15,none⟩ _ _ _ _ _;refine zy ?_;refine zU (ZLO hl hp) ?_
 by_cases hq:l.take p.length=p
 ·have hle:p.length<=l.length:=by
   have:=congrArg List.length hq;rw[List.length_take] at this;omega
  rw[decide_eq_true hq,if_pos hq];refine zy ?_;refine zD (ZFg (k:=p.length) Und.h rfl rfl rfl hle) ?_;exact ZAC (ZAD rfl ⟨rfl,rfl⟩)
 ·rw[decide_eq_false hq,if_neg hq]
  refine zy ?_;exact ZAC (ZAD rfl ⟨rfl,rfl⟩)
theorem ZGo {l p:Str}{h:Heap}(hl:Len l)(hp:Len p):Sv Tryz.prog 48 [str l,str p] h (RetP fun v h'=>v=.tuple ⟨[str (cutP l p).1,.bool (cutP l p).2]⟩/\h'=h):=by
 refine ZAG Tryz.func48 rfl (by rw[Tryz.ntmps48];rfl) ?_;show Wc Tryz.prog ⟨48,11,none⟩ _ _ _ _ _;refine zy ?_;refine zV (ZQg hl hp) ?_;exact ZAC (ZAD rfl ⟨rfl,rfl⟩)
theorem ZP3 {k:Str}(h:ZA7 k=true):k≠[]:=by
 rintro rfl;unfold ZA7 at h;simp at h
theorem ZET {x:WkR}(h:ZBG x=0):ZA7 x.archive=true/\ZA7 x.a=true/\(x.kind≠4->x.kind≠6->ZA7 x.b=true)/\(1<=x.kind/\x.kind<=6)/\((x.kind=2\/x.kind=3)->x.a≠x.b):=by
 unfold ZBG at h
 split at h
 ·exact absurd h (by decide)
 rename_i h1
 split at h
 ·exact absurd h (by decide)
 split at h
 ·exact absurd h (by decide)
 rename_i h3
 split at h
 ·exact absurd h (by decide)
 rename_i h4
 split at h
 ·exact absurd h (by decide)
 rename_i h5;simp only[Bool.not_eq_false,Bool.and_eq_true] at h1 h4;refine⟨h1,h4.1,fun k4 k6=>?_,by omega,fun hk e=>h5 ⟨hk,e⟩⟩;have:=h4.2;unfold ZFv at this
 rwa [if_neg k4,if_neg k6] at this
theorem ZHj {s:List WkR}(hg:∀x∈s,ZBG x=0){k:Str}(hk:k∈nodW s):ZA7 k=true\/∃x∈s,x.kind=1/\k=35::x.a:=by
 have hS:∀{ks:List Int} {x:WkR},(∀z∈ks,z=2\/z=3)->x∈ofK ks s->ZA7 x.a=true/\ZA7 x.b=true:=fun {ks x} hz hx=>by
  obtain⟨h1,h2⟩:=ZDL.1 hx;have:=ZET (hg x h1)
  rcases hz _ h2 with q|q
  ·exact⟨this.2.1,this.2.2.1 (by omega) (by omega)⟩
  ·exact⟨this.2.1,this.2.2.1 (by omega) (by omega)⟩
 unfold nodW at hk
 rcases List.mem_append.1 hk with hk|hk
 ·rcases List.mem_append.1 hk with hk|hk
  ·obtain⟨e,he,hke⟩:=ZHA.1 hk
   unfold edgW at he
   rcases List.mem_append.1 he with he|he
   ·obtain⟨x,hx,rfl⟩:=List.mem_map.1 he
    obtain⟨h1,h2⟩:=ZDL.1 hx;have h2':x.kind=1:=by simpa using h2
    rcases hke with rfl|rfl
    ·exact .inr ⟨x,h1,h2',rfl⟩
    ·exact .inl ((ZET (hg x h1)).2.2.1 (by omega) (by omega))
   ·obtain⟨x,hx,rfl⟩:=List.mem_map.1 he
    obtain⟨q1,q2⟩:=hS (ks:=[2]) (by simp) hx
    rcases hke with rfl|rfl
    ·exact .inl q1
    ·exact .inl q2
  ·obtain⟨e,he,hke⟩:=ZHA.1 hk
   obtain⟨x,hx,rfl⟩:=List.mem_map.1 he;obtain⟨q1,q2⟩:=hS (ks:=[3]) (by simp) hx
   rcases hke with rfl|rfl
   ·exact .inl q1
   ·exact .inl q2
 ·obtain⟨x,hx,rfl⟩:=List.mem_map.1 hk
  exact .inl (ZET (hg x (ZDL.1 hx).1)).2.1
theorem ZTW {s:List WkR}(hg:∀x∈s,ZBG x=0):∀k∈nodW s,k≠[]:=fun k hk=>by
 rcases ZHj hg hk with h|⟨x,-,-,rfl⟩
 ·exact ZP3 h
 ·simp
theorem ZNP (E:List (Str×Str)):(endE E).length=2*E.length:=by
 induction E with
 | nil=>rfl
 | cons e E ih =>
  have:endE (e::E)=[e.1,e.2]++endE E:=rfl;rw[this,List.length_append,ih,List.length_cons];simp;omega
theorem ZPR (s:List WkR):(nodW s).length<=7*s.length:=by
 have h1:=ZHI s;have h3:(ofK [3] s).length<=s.length:=List.length_filter_le _ _;have h4:(ofK [4] s).length<=s.length:=List.length_filter_le _ _;unfold nodW;rw[List.length_append,List.length_append,ZNP,ZNP,List.length_map,List.length_map];omega
def ZIW (s:List WkR)(k:Str):Bool:=decide (k∈nodW s) && !decide (k.take 1=[35])
def ZQI (l:List WkR)(a b:Str):List Str×Int :=
 if (chkS l).2≠0 then ([],(chkS l).2) else if ZIW (ZAk (mrgU ltW l)) a=false\/ZIW (ZAk (mrgU ltW l)) b=false then ([],4) else (ZGq (nxtW (ZAk (mrgU ltW l))) a b (nodW (ZAk (mrgU ltW l))).length,0)
set_option maxHeartbeats 1000000 in
theorem ZTz {ad:Option Addr}{cap:Nat}{l:List WkR}{h:Heap}{a b:Str}(hR:SrcK rowW 6 h ad l)(hn:ad=none->l=[]/\cap=0)(hf:∀x∈l,x.Fit)(hlen:Len l)(hL:WkLib h)(hla:Len a)(hlb:Len b) :
  Sv Tryz.prog 20 [.slice ad l.length cap,str a,str b] h (RetP fun v h'=>∃v1,v=.tuple ⟨[v1,i64 (ZQI l a b).2]⟩/\ZAF h h' v1 9 1 ((ZQI l a b).1.map str) (ZQI l a b).1.length/\Ext h h'):=by
 have hop:=ZGS hR hn hf hlen hL;unfold ZKq at hop;have hcl:=ZE9 (l:=l);have hcg:=ZEa (l:=l);unfold ZQI;generalize chkS l=ck at *;refine ZAG Tryz.func20 rfl (by rw[Tryz.ntmps20];rfl) ?_;show Wc Tryz.prog ⟨20,50,none⟩ _ _ _ _ _;refine zy ?_;refine ZAa rfl rfl rfl rfl rfl Bod.h rfl rfl hop ?_;rintro _ h1 ⟨⟨hc,rfl⟩|⟨hc,aS,af,rfl,hS,-⟩,hE1⟩
 ·refine zy ?_
  refine zD (A_tt hc (ZAh rfl rfl)) ?_;rw[if_pos hc];exact ZAC (ZAD rfl ⟨_,rfl,.nil _ _ _ _,hE1⟩)
 rw[if_neg (fun q=>q hc)];have hl2:=hcl hc;replace hcg:=hcg hc;have hsl:(ZAk (mrgU ltW l)).length<=200:=Nat.le_trans (ZIB l) hl2;have hsg:∀x∈ZAk (mrgU ltW l),ZBG x=0:=fun x hx=>hcg x (ZFB hx);have hsf:∀x∈ZAk (mrgU ltW l),x.Fit:=fun x hx=>hf x (ZFB hx);clear hcl hcg hop;generalize ZAk (mrgU ltW l)=S at *;generalize ZCB (mrgU ltW l)=F at *;have hnl:(nodW S).length<=10000:=Nat.le_trans (ZPR S) (by omega);have hne:=ZTW hsg;refine zy ?_;refine zD (A_ff (fun q=>q rfl) (ZAh rfl rfl)) ?_;refine zR (ZTU hS hsf hsl) ?_;rintro _ h2 ⟨hE2,bm,rfl,hWo⟩;have hWb:=hWo.at';have hE12:=hE1.trans hE2;refine zy ?_;refine zD (ZC5 (v:=.agg ⟨[str a,str b]⟩) rfl (by kernel_rfl)) ?_
 refine ZAN (fun (j:Nat) m ds h'=>ds=[]/\h2=h'/\j<=2/\(∀k,k∈[a,b].take j->ZIW S k=true)/\AllK m [(1,str a),(2,str b),(11,.map (some bm)),(29,.agg ⟨[str a,str b]⟩),(30,i64 (j:Nat))]) (fun j=>2-j) 0 ?_ ?_
 ·exact⟨rfl,rfl,Nat.zero_le _,by simp,rfl,rfl,rfl,rfl,rfl,trivial⟩
 rintro j m ds h3 ⟨rfl,rfl,hj,hok,hall⟩;refine Wc.le ?_ (Le.kn hall);clear hall;refine zy ?_;refine zC (ZAU rfl rfl) (fun hjl=>?_) (fun hjl=>?_);rotate_left
 ·have:j=2:=by omega
  subst this;have h1:=hok a (by simp);have h2':=hok b (by simp);rw[if_neg (by rw[h1,h2'];simp)];have hka:a∈nodW S:=by
   unfold ZIW at h1;simp only[Bool.and_eq_true,decide_eq_true_eq] at h1;exact h1.1
  refine zy ?_;refine zR (ZS2 (b:=b) hWb hka hne hnl) ?_;rintro v4 h4 ⟨hE4,hF4,-⟩;refine zy ?_;exact ZAC (ZAD rfl ⟨v4,rfl,hF4.base hE12.2.1,hE12.trans hE4⟩)
 obtain⟨c,hix,hcl,htk,hbad⟩:∃c,ZGf Tryz.prog 126 (.agg ⟨[str a,str b]⟩) (i64 (j:Nat))=some (str c)/\Len c/\[a,b].take (j+1)=[a,b].take j++[c]/\(ZIW S c=false->ZIW S a=false\/ZIW S b=false):=by
  have hj2:j<2:=by omega
  rcases j with _|_|j
  ·exact⟨a,by kernel_rfl,hla,rfl,.inl⟩
  ·exact⟨b,by kernel_rfl,hlb,rfl,.inr⟩
  ·omega
 obtain⟨gl,hm1,hm2,hm3,hm4⟩:=hWb;have hq:=hm3 c;refine zy ?_;refine zD (ZQc rfl rfl hix) ?_
 by_cases hcn:c∈nodW S
 rotate_left
 ·rw[decide_eq_false hcn] at hq
  have hno:lkp c gl=none:=by
   cases hl:lkp c gl with
   | none=>rfl
   | some v=>rw[hl] at hq;cases hq
  refine zD (ZAZ strK (k:=c) (v:=.slice none 0 0) (q:=false) Und.h Zr.h rfl hm1 rfl (by rw[hno];rfl) (by rw[hno];rfl)) ?_;rw[if_pos (hbad (by unfold ZIW;rw[decide_eq_false hcn];rfl))];exact ZAC (ZAD rfl ⟨_,rfl,.nil _ _ _ _,hE12⟩)
 obtain⟨ax,cx,hlx,-⟩:=hm4 c hcn;refine zD (ZAZ strK (k:=c) (v:=.slice ax (nxtW S c).length cx) (q:=true) Und.h Zr.h rfl hm1 rfl (by rw[hlx];rfl) (by rw[hlx];rfl)) ?_;refine zU (ZLf (p:=[35]) hcl (by decide)) ?_
 by_cases hp:c.take 1=[35]
 ·rw[decide_eq_true (show c.take ([35]:Str).length=[35] from hp)]
  refine zy ?_;rw[if_pos (hbad (by unfold ZIW;rw[decide_eq_true hp];simp))];exact ZAC (ZAD rfl ⟨_,rfl,.nil _ _ _ _,hE12⟩)
 ·rw[decide_eq_false (show ¬c.take ([35]:Str).length=[35] from hp)]
  refine zy ?_;refine⟨j+1,(by show 2-(j+1)<2-j;omega),rfl,rfl,by omega,fun k hk=>?_,rfl,rfl,rfl,rfl,rfl,trivial⟩;rw[htk,List.mem_append,List.mem_singleton] at hk
  rcases hk with hk|rfl
  ·exact hok k hk
  ·unfold ZIW
   rw[decide_eq_true hcn,decide_eq_false hp];rfl
def ZIi (gl:List (Str×Value))(M:Str->Option Str):Prop:=Once gl/\∀k,lkp k gl=(M k).map str
theorem ZIi.set {gl:List (Str×Value)}{M:Str->Option Str}(h:ZIi gl M)(k v:Str):ZIi (setK k (str v) gl) (fun k'=>if k'=k then some v else M k'):=by
 refine⟨h.1.set,fun k'=>?_⟩;rw[ZBw,h.2]
 by_cases e:k'=k <;> simp[e]
theorem ZUb {h:Heap}{c7 c8 bl:Nat}{gl:List (Str×Value)}{M:Str->Option Str}{N:List Str}{r:Str->Str}(hg7:h.get c7=some (.cells [.map (some bl)] 114 false))(hg8:h.get c8=some (.cells [.func (.func 46) ⟨[]⟩ ⟨[.pointer (some ⟨c7,0,none⟩),.pointer (some ⟨c8,0,none⟩)]⟩] 115 false))(hm:MapB strK h bl gl)(hL:ZIi gl M)(hU:UF N M r) :
  ∀n k,(N.filter fun z=>decide (ltB z k)).length<=n->Sv Tryz.prog 46 [str k,.pointer (some ⟨c7,0,none⟩),.pointer (some ⟨c8,0,none⟩)] h (RetP fun v h'=>v=str (r k)/\h'=h):=by
 intro n
 induction n with
 | zero =>
  intro k hn;have hM:M k=none\/M k=some k:=by
   cases hM:M k with
   | none=>exact .inl rfl
   | some u =>
    by_cases e:u=k
    ·exact .inr (by rw[e])
    ·obtain⟨q1,q2,-⟩:=hU.up k u hM e
     have:u∈N.filter fun z=>decide (ltB z k):=List.mem_filter.2 ⟨q2,decide_eq_true q1⟩;have:=List.length_pos_of_mem this;omega
  refine ZAG Tryz.func46 rfl (by rw[Tryz.ntmps46];rfl) ?_;show Wc Tryz.prog ⟨46,23,none⟩ _ _ _ _ _;refine zy ?_
  rcases hM with hM|hM
  ·have hl:=hL.2 k
   rw[hM] at hl;refine zD (ZAZ strK (k:=k) (v:=str []) (q:=false) Und.h Zr.h rfl hm rfl (by rw[hl];rfl) (by rw[hl];rfl)) ?_;exact ZAC (ZAD rfl ⟨by rw[hU.no k hM];rfl,rfl⟩)
  ·have hl:=hL.2 k
   rw[hM] at hl;refine zD (ZAZ strK (k:=k) (v:=str k) (q:=true) Und.h Zr.h rfl hm rfl (by rw[hl];rfl) (by rw[hl];rfl)) ?_;refine zD (A_ff (fun q=>q rfl) (ZA6 rfl rfl)) ?_;exact ZAC (ZAD rfl ⟨by rw[hU.same k hM];rfl,rfl⟩)
 | succ n ih =>
  intro k hn;refine ZAG Tryz.func46 rfl (by rw[Tryz.ntmps46];rfl) ?_;show Wc Tryz.prog ⟨46,23,none⟩ _ _ _ _ _;refine zy ?_;have hl:=hL.2 k
  cases hM:M k with
  | none =>
   rw[hM] at hl;refine zD (ZAZ strK (k:=k) (v:=str []) (q:=false) Und.h Zr.h rfl hm rfl (by rw[hl];rfl) (by rw[hl];rfl)) ?_;exact ZAC (ZAD rfl ⟨by rw[hU.no k hM];rfl,rfl⟩)
  | some u =>
   rw[hM] at hl;refine zD (ZAZ strK (k:=k) (v:=str u) (q:=true) Und.h Zr.h rfl hm rfl (by rw[hl];rfl) (by rw[hl];rfl)) ?_
   by_cases e:u=k
   ·subst e
    refine zD (A_ff (fun q=>q rfl) (ZA6 rfl rfl)) ?_;exact ZAC (ZAD rfl ⟨by rw[hU.same u hM];rfl,rfl⟩)
   obtain⟨q1,q2,q3⟩:=hU.up k u hM e;have hlt:=ZPQ q1 q2;refine zD (A_tt e (ZA6 rfl rfl)) ?_;refine zV (ih u (by omega)) ?_;exact ZAC (ZAD rfl ⟨by rw[q3];rfl,rfl⟩)
noncomputable def ZBj (c7 c8 bl:Nat)(gl:List (Str×Value)):List It:=[mapI strK bl gl,ceI c7 [.map (some bl)] 114 false,ceI c8 [.func (.func 46) ⟨[]⟩ ⟨[.pointer (some ⟨c7,0,none⟩),.pointer (some ⟨c8,0,none⟩)]⟩] 115 false]
theorem ZR2 {h0 h:Heap}{c7 c8 bl:Nat}{gl:List (Str×Value)}{M:Str->Option Str}{N:List Str}{r:Str->Str}{I:List It}(hO:Own h0 h (ZBj c7 c8 bl gl++I))(hL:ZIi gl M)(hU:UF N M r)(k:Str) :
  Sv Tryz.prog 46 [str k,.pointer (some ⟨c7,0,none⟩),.pointer (some ⟨c8,0,none⟩)] h (RetP fun v h'=>v=str (r k)/\h'=h):=ZUb hO.p2 hO.p3 hO.p1 hL hU _ k (Nat.le_refl _)
abbrev WkM:=Value×List Str×Value×List Str×Str
def rowM (a:WkM):List Value:=[a.1,a.2.2.1,str a.2.2.2.2]
def spM (a:WkM):WkO:=(a.2.1,a.2.2.2.1,a.2.2.2.2)
def nmI (h0:Heap)(a:WkM):It:=slI h0 a.1 9 1 (a.2.1.map str) a.2.1.length
def itI' (h0:Heap)(a:WkM):It:=slI h0 a.2.2.1 9 1 (a.2.2.2.1.map str) a.2.2.2.1.length
def slM (h0:Heap)(a:WkM):List It:=[nmI h0 a,itI' h0 a]
def topM (h0:Heap)(va:Value)(A:List WkM):It:=slI h0 va 84 3 (A.flatMap rowM) A.length
def allX (h0:Heap)(va:Value)(A:List WkM):List It:=topM h0 va A::A.flatMap (slM h0)
theorem ZJr (A:List WkM):(A.flatMap rowM).length=A.length*3:=ZBe (enc:=rowM) (k:=3) (fun _=>rfl) A
theorem ZG8 {α:Type}{enc:α->List Value}{k:Nat}(hk:∀x,(enc x).length=k){t:Nat}(ht:t<k){v:Value}:∀{l:List α}{j:Nat}{a a':α},l[j]?=some a->enc a'=(enc a).set t v->(l.flatMap enc).set (j*k+t) v=(l.set j a').flatMap enc
 | [],j,_,_,h,_=>by simp at h
 | x::l,0,a,a',h,e=>by
  have:x=a:=by simpa using h
  subst this;rw[List.flatMap_cons,List.set_cons_zero,List.flatMap_cons,Nat.zero_mul,Nat.zero_add,List.set_append_left _ _ (by rw[hk];exact ht),e]
 | x::l,j+1,a,a',h,e=>by
  have h':l[j]?=some a:=by simpa using h
  rw[List.flatMap_cons,List.set_cons_succ,List.flatMap_cons,List.set_append_right _ _ (by rw[hk,Nat.succ_mul];omega),hk]
  congr 1
  have:=ZG8 hk ht h' e;rw[<-this]
  congr 1
  rw[Nat.succ_mul];omega
theorem ZRd {A:List WkM}{j:Nat}{a:WkM}(h:A[j]?=some a):∃B C,A=B++a::C/\∀a',A.set j a'=B++a'::C:=by
 obtain⟨hj,e⟩:=List.getElem?_eq_some_iff.1 h;refine⟨A.take j,A.drop (j+1),?_,fun a'=>?_⟩
 ·rw[<-e,<-List.drop_eq_getElem_cons hj,List.take_append_drop]
 ·rw[List.set_eq_take_append_cons_drop,if_pos hj]
theorem ZH2 (h0:Heap)(va:Value){A:List WkM}{j:Nat}{a:WkM}(h:A[j]?=some a):∃R,(∀h1 I,Own h0 h1 (I++allX h0 va A)->Own h0 h1 (nmI h0 a::itI' h0 a::topM h0 va A::(I++R))) ∧
  (∀h1 I a' va',Own h0 h1 (nmI h0 a'::itI' h0 a'::topM h0 va' (A.set j a')::(I++R))->Own h0 h1 (I++allX h0 va' (A.set j a'))):=by
 obtain⟨B,C,e1,e2⟩:=ZRd h;have hfl:∀a',(B++a'::C).flatMap (slM h0)=B.flatMap (slM h0)++(slM h0 a'++C.flatMap (slM h0)):=fun a'=>by rw[List.flatMap_append,List.flatMap_cons]
 have hperm:∀(I:List It) (a':WkM) (x:It),(I++x::(B.flatMap (slM h0)++(slM h0 a'++C.flatMap (slM h0)))).Perm (nmI h0 a'::itI' h0 a'::x::(I++(B.flatMap (slM h0)++C.flatMap (slM h0)))):=fun I a' x=>by
  refine List.perm_middle.trans ?_;have h1:(B.flatMap (slM h0)++(slM h0 a'++C.flatMap (slM h0))).Perm (slM h0 a'++(B.flatMap (slM h0)++C.flatMap (slM h0))):=List.perm_append_comm_assoc _ _ _;have h2:(I++(B.flatMap (slM h0)++(slM h0 a'++C.flatMap (slM h0)))).Perm (slM h0 a'++(I++(B.flatMap (slM h0)++C.flatMap (slM h0)))):=(List.Perm.append_left I h1).trans (List.perm_append_comm_assoc _ _ _);exact (List.Perm.cons x h2).trans (((List.Perm.swap _ _ _).trans (List.Perm.cons _ (List.Perm.swap _ _ _))))
 refine⟨B.flatMap (slM h0)++C.flatMap (slM h0),fun h1 I hO=>?_,fun h1 I a' va' hO=>?_⟩
 ·have:allX h0 va A=topM h0 va A::(B.flatMap (slM h0)++(slM h0 a++C.flatMap (slM h0))):=by
   unfold allX
   conv=>lhs;rw[show A.flatMap (slM h0)=(B++a::C).flatMap (slM h0) by rw[<-e1]]
   rw[hfl]
  rw[this] at hO;exact hO.perm (hperm I a _)
 ·have:allX h0 va' (A.set j a')=topM h0 va' (A.set j a')::(B.flatMap (slM h0)++(slM h0 a'++C.flatMap (slM h0))):=by
   unfold allX
   conv=>lhs;rw[show (A.set j a').flatMap (slM h0)=(B++a'::C).flatMap (slM h0) by rw[<-e2]]
   rw[hfl]
  rw[this];exact hO.perm (hperm I a' _).symm
theorem ZQz {h0 h1:Heap}{va:Value}{A:List WkM}{t:Str}{I:List It}(hO:Own h0 h1 (topM h0 va (A++[(.slice none 0 0,[],.slice none 0 0,[],t)])::(I++A.flatMap (slM h0)))):Own h0 h1 (I++allX h0 va (A++[(.slice none 0 0,[],.slice none 0 0,[],t)])):=by
 have h2:=(hO.nilSl 9 1).nilSl 9 1;have h3:Own h0 h1 ([nmI h0 (.slice none 0 0,[],.slice none 0 0,[],t),itI' h0 (.slice none 0 0,[],.slice none 0 0,[],t)]++(topM h0 va (A++[(.slice none 0 0,[],.slice none 0 0,[],t)])::(I++A.flatMap (slM h0)))):=h2;refine h3.perm ?_;unfold allX;rw[List.flatMap_append];refine (List.perm_append_comm (l₁:=[_,_])).trans ?_;refine List.Perm.trans ?_ List.perm_middle.symm;refine List.Perm.cons _ ?_;rw[<-List.append_assoc];exact List.Perm.refl _
theorem Own.setRow {h0 h h':Heap}{b n sz:Nat}{sp:Option Nat}{el:TypeId}{cs cs':List Value}{op:Bool}{l:List It}(hO:Own h0 h (slI h0 (.slice (some ⟨b,0,sp⟩) n n) el sz cs n::l))(hw:WF h)(he0:Ext h0 h)(hw0:WF h0)(hU:Upd h b (.cells cs' el op) h')(hl:cs'.length=cs.length):Own h0 h' (slI h0 (.slice (some ⟨b,0,sp⟩) n n) el sz cs' n::l)/\Ext h0 h':=by
 have hX:Exb (slI h0 (.slice (some ⟨b,0,sp⟩) n n) el sz cs n).S h h':=(Exb.ofUpd hU).mono fun c hc=>by show some b=some c;rw[hc]
 refine⟨hO.put hw he0.2.1 hX ?_ fun c hc=>.inl hc,hO.grows hX he0 hw0⟩
 rcases (show ZAF h0 h (.slice (some ⟨b,0,sp⟩) n n) el sz cs n from hO.p1) with ⟨e,_⟩|⟨b',sp',op',e,h2,h3,h4,h5⟩
 ·cases e
 ·cases e
  exact .inr ⟨b,sp,op,rfl,hU.at',by rw[hl];exact h3,h4,h5⟩
def AtOK (g:List (Str×Value))(R:List Str):Prop:=Once g/\∀q,lkp q g=if q∈R then some (i64 (R.idxOf q:Nat)) else none
theorem AtOK.nil:AtOK [] []:=⟨by simp[Once],fun _=>rfl⟩
theorem AtOK.add {g:List (Str×Value)}{R:List Str}(h:AtOK g R){q:Str}(hq:q ∉ R):AtOK (setK q (i64 (R.length:Nat)) g) (R++[q]):=by
 refine⟨h.1.set,fun z=>?_⟩;rw[ZBw,h.2]
 by_cases e:z=q
 ·subst e
  rw[if_pos rfl,if_pos (by simp),List.idxOf_append,if_neg hq];simp
 ·rw[if_neg e]
  by_cases hz:z∈R
  ·rw[if_pos hz,if_pos (List.mem_append_left _ hz),List.idxOf_append,if_pos hz]
  ·rw[if_neg hz,if_neg (by simp[hz,e])]
theorem ZDh {h0 h:Heap}{b:Nat}{sp:Option Nat}{n:Nat}{A:List WkM}{j t:Nat}{a:WkM}{v:Value}{l:List It}(hO:Own h0 h (topM h0 (.slice (some ⟨b,0,sp⟩) n n) A::l))(hj:A[j]?=some a)(ht:t<3)(hv:(rowM a)[t]?=some v):∃op,h.get b=some (.cells (A.flatMap rowM) 84 op)/\ZAS h b (0+j*3+t)=some v:=by
 rcases (show ZAF h0 h (.slice (some ⟨b,0,sp⟩) n n) 84 3 (A.flatMap rowM) A.length from hO.p1) with ⟨e,_⟩|⟨b',sp',op',e,h2,h3,h4,h5⟩
 ·cases e
 ·cases e
  refine⟨op',h2,ZAb h2 ?_⟩;obtain⟨hjl,hja⟩:=List.getElem?_eq_some_iff.1 hj;rw[ZAv,Nat.zero_add,ZH9 (enc:=rowM) (k:=3) (fun _=>rfl) hjl ht,hja];exact hv
theorem ZRW {r r':Str->Str}:∀{p:List WkR},(∀x∈p,r x.a=r' x.a)->titS r p=titS r' p:=by
 intro p
 induction p using ZEf with
 | h0=>intro _;rfl
 | h1 p x ih =>
  intro h
  funext k
  rw[ZFX,ZFX,ih fun y hy=>h y (List.mem_append_left _ hy),h x (by simp)]
theorem ZLt {s:List WkR}(hg:∀x∈s,ZBG x=0){k:Str}(hk:k∈nodW s):k.length<=25:=by
 have hn:∀{z:Str},ZA7 z=true->z.length<=24:=fun {z} h=>by
  unfold ZA7 at h;simp only[Bool.and_eq_true,decide_eq_true_eq] at h;exact h.1.1.2
 rcases ZHj hg hk with h|⟨x,hx,-,rfl⟩
 ·have:=hn h;omega
 ·have:=hn (ZET (hg x hx)).2.1
  rw[List.length_cons];omega
def ZOn (h:Heap)(row:List Value)(w:WkO):Prop:=∃an cn ai ci,row=[.slice an w.1.length cn,.slice ai w.2.1.length ci,str w.2.2]/\ZAi str h an w.1/\ZAi str h ai w.2.1
theorem ZOn.ext {h h':Heap}(hE:Ext h h'){row:List Value}{w:WkO}(hw:ZOn h row w):ZOn h' row w:=by
 obtain⟨an,cn,ai,ci,e,h1,h2⟩:=hw;exact⟨an,cn,ai,ci,e,h1.ext hE,h2.ext hE⟩
def ZDI (h:Heap)(v:Value)(W:List WkO):Prop:=∃a c,v=.slice a W.length c/\ZBO 3 ZOn h a W
theorem ZSy {h0 h:Heap}{va:Value}{A:List WkM}(hO:Own h0 h (allX h0 va A)):ZDI h va (A.map spM):=by
 have hF:ZAF h0 h va 84 3 (A.flatMap rowM) A.length:=hO.p1;obtain⟨a,e,hS,-⟩:=ZAF.rowsAt (enc:=rowM) (k:=3) (fun _=>rfl) hF rfl;refine⟨a,A.length,by rw[List.length_map];exact e,fun i hi=>?_⟩;have hi':i<A.length:=by simpa using hi
 obtain⟨b,o,oa,e1,row,hr,hx⟩:=hS.1 i hi';have hx2:row=rowM A[i]:=hx;refine⟨b,o,oa,e1,row,hr,?_⟩;rw[hx2,List.getElem_map];have hm:=List.getElem_mem hi';generalize A[i]=w at *;have h1:ZAF h0 h w.1 9 1 (w.2.1.map str) w.2.1.length:=hO.has (nmI h0 w) (List.mem_cons_of_mem _ (List.mem_flatMap.2 ⟨w,hm,by simp[slM]⟩));have h2:ZAF h0 h w.2.2.1 9 1 (w.2.2.2.1.map str) w.2.2.2.1.length:=hO.has (itI' h0 w) (List.mem_cons_of_mem _ (List.mem_flatMap.2 ⟨w,hm,by simp[slM]⟩));obtain⟨a1,e1',-,l1⟩:=ZAF.list h1;obtain⟨a2,e2',-,l2⟩:=ZAF.list h2;exact⟨a1,_,a2,_,by unfold rowM;rw[e1',e2'];rfl,l1,l2⟩
abbrev xF43:List Nat:=[0,1,2,3,4,5,6,7,8]
structure ZEx (s:List WkR)(gl:List (Str×Value))(r:Str->Str):Prop where
 uf:∃M,ZIi gl M/\UF (nodW s) M r
 conn:∀k,Conn s k (r k)
theorem ZEx.init (s:List WkR):ZEx s [] id:=⟨⟨_,⟨by simp[Once],fun _=>rfl⟩,UF.init _⟩,fun k=>.refl k⟩
theorem ZEx.uni {s:List WkR}{gl:List (Str×Value)}{r:Str->Str}(h:ZEx s gl r){x y:Str}(hx:x∈nodW s)(hy:y∈nxtW s x):ZEx s (setK (maxB (r x) (r y)) (str (minB (r x) (r y))) gl) (uniR r x y):=by
 obtain⟨⟨M,h1,h2⟩,h3⟩:=h;exact⟨⟨_,h1.set _ _,h2.uni hx (ZG9 hy)⟩,ZRB h3 (.step (.refl _) hy)⟩
theorem ZEx.find {s:List WkR}{h0 h:Heap}{c7 c8 bl:Nat}{gl:List (Str×Value)}{r:Str->Str}{I:List It}(hL:ZEx s gl r)(hO:Own h0 h (ZBj c7 c8 bl gl++I))(k:Str) :
  Sv Tryz.prog 46 [str k,.pointer (some ⟨c7,0,none⟩),.pointer (some ⟨c8,0,none⟩)] h (RetP fun v h'=>v=str (r k)/\h'=h):=by
 obtain⟨⟨M,h1,h2⟩,-⟩:=hL;exact ZR2 hO h1 h2 k
theorem Own.mid1 {h0 h:Heap}{A B:List It}{x:It}(hO:Own h0 h (A++x::B)):Own h0 h (x::(A++B)):=hO.perm List.perm_middle
theorem Own.mid2 {h0 h:Heap}{A B:List It}{x:It}(hO:Own h0 h (x::(A++B))):Own h0 h (A++x::B):=hO.perm List.perm_middle.symm
def ZKg (r:Str->Str)(pre:List WkR)(gt:List (Str×Value)):Prop:=Once gt/\∀k,lkp k gt=(titS r pre k).map encW
theorem ZKg.skip {r:Str->Str}{pre:List WkR}{gt:List (Str×Value)}(h:ZKg r pre gt){x y:WkR}(hy:titS r pre (r x.a)=some y)(hd:¬y.day<x.day):ZKg r (pre++[x]) gt:=by
 refine⟨h.1,fun k=>?_⟩;rw[h.2,ZFX]
 by_cases e:r x.a=k
 ·rw[if_pos e,<-e,hy];simp[titN,hd]
 ·rw[if_neg e]
theorem ZKg.put {r:Str->Str}{pre:List WkR}{gt:List (Str×Value)}(h:ZKg r pre gt){x:WkR}(hy:∀y,titS r pre (r x.a)=some y->y.day<x.day):ZKg r (pre++[x]) (setK (r x.a) (encW x) gt):=by
 refine⟨h.1.set,fun k=>?_⟩;rw[ZBw,h.2,ZFX]
 by_cases e:k=r x.a
 ·rw[if_pos e,if_pos e.symm,e]
  cases hq:titS r pre (r x.a) with
  | none=>rfl
  | some y=>simp[titN,hy y hq]
 ·rw[if_neg e,if_neg (Ne.symm e)]
theorem ZI5 {s:List WkR}{V:List Str}(hn:V.Nodup)(hm:∀k,k∈V ↔ k∈nodW s):(V.reverse.mergeSort fun x y=>decide (x<=y))=ZAQ s:=by
 have hperm:=List.mergeSort_perm V.reverse (fun x y=>decide (x<=y))
 have hsort:=List.pairwise_mergeSort (le:=fun (x y:Str)=>decide (x<=y)) (fun a b c h1 h2=>decide_eq_true (List.le_trans (of_decide_eq_true h1) (of_decide_eq_true h2))) (fun a b=>by
  simp only[Bool.or_eq_true,decide_eq_true_eq];exact List.le_total a b) V.reverse
 have hnd:(V.reverse.mergeSort fun x y=>decide (x<=y)).Nodup:=hperm.symm.nodup ((List.reverse_perm V).symm.nodup hn);refine ZJS ZAR ?_ fun e=>by rw[hperm.mem_iff,List.mem_reverse,hm]
 refine (hsort.and hnd).imp fun {a b} h=>?_;have h1:a<=b:=of_decide_eq_true h.1
 rcases ZAR.tri a b with g|g|g
 ·exact g
 ·exact absurd g h.2
 ·exact absurd g (List.not_lt.2 h1)
theorem ZKr {k:Str}(h:ZA7 k=true):ZCF k=false:=by
 unfold ZCF;rw[decide_eq_false_iff_not];intro e;unfold ZA7 at h;simp only[Bool.and_eq_true] at h;have h1:=h.1.2
 cases k with
 | nil=>cases e
 | cons c r =>
  have:c=35:=by simpa using e
  subst this;have h2:letB 35=true:=h1;exact absurd h2 (by decide)
theorem ZQC {s:List WkR}(hg:∀x∈s,ZBG x=0){k:Str}(hk:k∈nodW s)(hh:ZCF k=true):repW s k∈ZCQ (repW s) (ZAQ s):=by
 rcases ZHj hg hk with h|⟨x,hx,hx1,rfl⟩
 ·rw[ZKr h] at hh;cases hh
 ·have hn:ZA7 x.b=true:=(ZET (hg x hx)).2.2.1 (by omega) (by omega)
  have hnx:x.b∈nxtW s (35::x.a):=ZFf.2 (.inl (by
   unfold edgW;exact List.mem_append_left _ (List.mem_map.2 ⟨x,ZDL.2 ⟨hx,by simp[hx1]⟩,rfl⟩)))
  have hb:=ZG9 hnx;rw[(ZSM hk hb).2 (.step (.refl _) hnx)];unfold ZCQ;rw[ZIM];exact List.mem_map.2 ⟨x.b,List.mem_filter.2 ⟨(ZBS ZAR).2 hb,by rw[ZKr hn];rfl⟩,rfl⟩
def ZRr (l:List WkR)(v:Value)(h':Heap):Prop:=((chkS l).2≠0/\v=.tuple ⟨[.slice none 0 0,i64 (chkS l).2]⟩)\/((chkS l).2=0/\∃va,v=.tuple ⟨[va,i64 0]⟩/\ZDI h' va (ZRK (ZAk (mrgU ltW l))))
theorem Own.frame {h0 h h':Heap}{l:List It}(hO:Own h0 h l)(hk:∀c o,h0.nx<=c->h.get c=some o->h'.get c=some o):Own h0 h' l :=
 ⟨fun x hx=>x.loc (fun c o hc hg=>hk c o (hO.lo x hx c hc) hg) (hO.has x hx),hO.lo,hO.ap⟩
def ZK1 (l:List WkR)(h0:Heap)(v:Value)(h':Heap):Prop:=((chkS l).2≠0/\v=.tuple ⟨[.slice none 0 0,i64 (chkS l).2]⟩)\/((chkS l).2=0/\∃va,v=.tuple ⟨[va,i64 0]⟩/\∀h'':Heap,(∀c o,h0.nx<=c->h'.get c=some o->h''.get c=some o)->ZDI h'' va (ZRK (ZAk (mrgU ltW l))))
set_option maxHeartbeats 8000000 in
theorem ZQW {ad:Option Addr}{cap:Nat}{l:List WkR}{h:Heap}(hR:SrcK rowW 6 h ad l)(hn:ad=none->l=[]/\cap=0)(hf:∀x∈l,x.Fit)(hlen:Len l)(hL:WkLib h) :
  Sv Tryz.prog 18 [.slice ad l.length cap] h (RetP fun v h'=>ZK1 l h v h'/\Ext h h'):=by
 have hop:=ZGS hR hn hf hlen hL;unfold ZKq at hop;have hcl:=ZE9 (l:=l);have hcg:=ZEa (l:=l);unfold ZK1;generalize chkS l=ck at *;refine ZAG Tryz.func18 rfl (by rw[Tryz.ntmps18];rfl) ?_;show Wc Tryz.prog ⟨18,203,none⟩ _ _ _ _ _;refine zy ?_;refine ZAa rfl rfl rfl rfl rfl Bod.h rfl rfl hop ?_;rintro _ h1 ⟨⟨hc,rfl⟩|⟨hc,aS,af,rfl,hS,-⟩,hE1⟩
 ·refine zy ?_
  refine zD (A_tt hc (ZAh rfl rfl)) ?_;exact ZAC (ZAD rfl ⟨.inl ⟨hc,rfl⟩,hE1⟩)
 have hl2:=hcl hc;replace hcg:=hcg hc;have hsl:(ZAk (mrgU ltW l)).length<=200:=Nat.le_trans (ZIB l) hl2;have hsg:∀x∈ZAk (mrgU ltW l),ZBG x=0:=fun x hx=>hcg x (ZFB hx);have hsf:∀x∈ZAk (mrgU ltW l),x.Fit:=fun x hx=>hf x (ZFB hx);clear hcl hcg hop;generalize ZAk (mrgU ltW l)=S at *;generalize ZCB (mrgU ltW l)=F at *;have hnl:(nodW S).length<=10000:=Nat.le_trans (ZPR S) (by omega);have hne:=ZTW hsg;refine zy ?_;refine zD (A_ff (fun q=>q rfl) (ZAh rfl rfl)) ?_;refine ZBC fun hw=>?_;refine zR (ZTU hS hsf hsl) ?_;rintro _ h2 ⟨hE2,bm,rfl,gw,D,hO2,hon,hk1,hk2⟩;refine ZBC fun hW2=>?_;generalize hDL:D.map (fun d=>liI d.2.1 (nxtW S d.1))=DL at hO2
 have hls:∀k∈nodW S,∃a c,lkp k gw=some (.slice a (nxtW S k).length c)/\liI a (nxtW S k)∈DL:=fun k hk=>by
  obtain⟨d,hd,rfl,e⟩:=hk2 k hk;exact⟨d.2.1,d.2.2,e,by rw[<-hDL];exact List.mem_map.2 ⟨d,hd,rfl⟩⟩
 clear hk2 hDL;refine zy ?_;refine ZCe rfl rfl fun h3 hE3 hW3 hg3 hn3=>?_;have hO3:=hO2.newMap (K:=strK) hW2 hE2.2.1 hE3 hg3 (Nat.le_refl _);replace hE3:=hE2.trans hE3;generalize h2.nx=bl at hO3 hg3 ⊢;refine zy ?_;refine ZAJ rfl rfl Zr.h Tsz.h rfl (fun _=>rfl) rfl rfl rfl fun h4 hE4 hW4 hg4 hn4=>?_;have hO4:=hO3.newCe hW3 hE3.2.1 hE4 hg4 (Nat.le_refl _);replace hE4:=hE3.trans hE4;generalize h3.nx=c7 at hO4 hg4 ⊢;refine zy ?_;refine ZA2 rfl rfl Zr.h fun h5 hE5 hW5 hg5 hn5=>?_;have hO5:=hO4.newCe hW4 hE4.2.1 hE5 hg5 (Nat.le_refl _);replace hE5:=hE4.trans hE5;generalize h4.nx=c8 at hO5 hg5 ⊢;refine zy ?_
 refine ZB6 hw hE5 rfl Tsz.h rfl rfl hO5 rfl rfl rfl fun h6 hW6 hO6 hE6=>?_
 have hO6':Own h1 h6 (mapI strK bm gw::(ZBj c7 c8 bl []++DL)):=hO6.perm (by
  refine (List.Perm.trans ?_ (List.perm_middle (l₁:=ZBj c7 c8 bl []) (a:=mapI strK bm gw)));exact List.Perm.append_right (mapI strK bm gw::DL) (List.reverse_perm [mapI strK bl [],ceI c7 [.map (some bl)] 114 false,ceI c8 _ 115 false] |>.trans (List.Perm.refl _)))
 clear hO6 hO5 hO4 hO3 hE5 hE4 hE3 hg3 hg4 hg5 hn3 hn4 hn5;refine zy ?_;refine ZB0 strK hE6 rfl rfl Und.h rfl hO6' fun h7 hW7 hO7 hE7=>?_;replace hE7:=hE6.trans hE7;generalize h6.nx=rr at hO7 ⊢;clear hO6' hE6;have hO7':Own h1 h7 (ZBj c7 c8 bl []++(itI strK bm rr gw []::DL)):=hO7.mid2;clear hO7;refine zy ?_;refine ZAN (fun (st:List (Str×Value)×(Str->Str)×List Str) m ds h'=>ds=[]/\Ext h1 h'/\Own h1 h' (ZBj c7 c8 bl st.1++(itI strK bm rr gw st.2.2::DL))/\ZEx S st.1 st.2.1/\(∀k∈st.2.2,∀z∈nxtW S k,st.2.1 z=st.2.1 k)/\st.2.2.Nodup/\(∀k∈st.2.2,k∈nodW S)/\AllK m [(4,.slice aS S.length S.length),(6,.map (some bm)),(7,.pointer (some ⟨c7,0,none⟩)),(8,.pointer (some ⟨c8,0,none⟩)),(49,.pointer (some ⟨rr,0,none⟩)),(2,.slice none 0 0)]) (fun st=>(nodW S).length-st.2.2.length) ([],id,[]) ?_ ?_
 ·exact⟨rfl,hE7,hO7',ZEx.init S,(fun _ h=>nomatch h),.nil,(fun _ h=>nomatch h),rfl,rfl,rfl,rfl,rfl,rfl,trivial⟩
 clear hO7' hE7 hW7;rintro⟨gl,r,V⟩ m ds h8 ⟨rfl,hE8,hO8,hLd,hV1,hVn,hV2,hall⟩;refine Wc.le ?_ (Le.kn hall);clear hall;simp only at hO8 hLd hV1 hVn hV2 ⊢;refine zy ?_;refine ZCG strK hw hE8 rfl rfl rfl hon hO8.mid1 (fun hdone=>?_) fun k v h9 hlkv hnk hC hO9 hE9=>?_;rotate_left
 ·have hkn:k∈nodW S:=by
   have:=hk1 k;rw[hlkv] at this;exact of_decide_eq_true this.symm
  obtain⟨ax,cx,hlx,hmem⟩:=hls k hkn;rw[hlkv] at hlx;cases hlx;have hO9':Own h1 h9 (ZBj c7 c8 bl gl++(itI strK bm rr gw (k::V)::DL)):=hO9.mid2;have hLi:ZAi str h9 ax (nxtW S k):=hO9'.has _ (List.mem_append_right _ (List.mem_cons_of_mem _ hmem));have hnx0:(nxtW S k).length<=10000:=by
   have:=ZBH (ZIp S k) (m:=nodW S) fun z hz=>ZKO hz;omega
  have hlt:V.length+1<=(nodW S).length:=by
   have:=ZBH (List.nodup_cons.2 ⟨hnk,hVn⟩) (m:=nodW S) fun k' hk'=>by
    rcases List.mem_cons.1 hk' with rfl|hk'
    ·exact hkn
    ·exact hV2 k' hk'
   simpa using this
  refine zy ?_;refine ZDk strK rfl rfl rfl hC ?_;refine zy ?_;refine ZAN (fun (st:Nat×List (Str×Value)×(Str->Str)) m ds h'=>ds=[]/\Ext h1 h'/\st.1<=(nxtW S k).length/\Own h1 h' (ZBj c7 c8 bl st.2.1++(itI strK bm rr gw (k::V)::DL))/\ZEx S st.2.1 st.2.2/\(∀k∈V,∀z∈nxtW S k,st.2.2 z=st.2.2 k)/\(∀z∈(nxtW S k).take st.1,st.2.2 z=st.2.2 k)/\AllK m [(4,.slice aS S.length S.length),(6,.map (some bm)),(7,.pointer (some ⟨c7,0,none⟩)),(8,.pointer (some ⟨c8,0,none⟩)),(49,.pointer (some ⟨rr,0,none⟩)),(2,.slice none 0 0),(9,str k),(55,.slice ax (nxtW S k).length cx),(56,i64 (nxtW S k).length),(57,i64 (st.1:Nat))]) (fun st=>(nxtW S k).length-st.1) (0,gl,r) ?_ ?_
  ·exact⟨rfl,hE9,Nat.zero_le _,hO9',hLd,hV1,by simp,rfl,rfl,rfl,rfl,rfl,rfl,rfl,rfl,rfl,rfl,trivial⟩
  clear hO9' hO9 hE9 hC hLd hV1 hO8 hE8 hLi;rintro⟨j,gl,r⟩ m ds h10 ⟨rfl,hE10,hj,hO10,hLd,hV1,hT,hall⟩;refine Wc.le ?_ (Le.kn hall);clear hall;simp only at hj hO10 hLd hV1 hT ⊢;have hLi:ZAi str h10 ax (nxtW S k):=hO10.has _ (List.mem_append_right _ (List.mem_cons_of_mem _ hmem));refine zy ?_;refine zC (ZAU rfl rfl) (fun hjl=>?_) (fun hjl=>?_);rotate_left
  ·have:j=(nxtW S k).length:=by omega
   subst this;rw[List.take_length] at hT;refine zy ?_;refine⟨(gl,r,k::V),(by show (nodW S).length-(V.length+1)<(nodW S).length-V.length;omega),rfl,hE10,hO10,hLd,fun k' hk'=>?_,List.nodup_cons.2 ⟨hnk,hVn⟩,fun k' hk'=>?_,rfl,rfl,rfl,rfl,rfl,rfl,trivial⟩
   ·rcases List.mem_cons.1 hk' with rfl|hk'
    ·exact hT
    ·exact hV1 k' hk'
   ·rcases List.mem_cons.1 hk' with rfl|hk'
    ·exact hkn
    ·exact hV2 k' hk'
  have hj':j<(nxtW S k).length:=by omega
  have htk:(nxtW S k).take (j+1)=(nxtW S k).take j++[(nxtW S k)[j]]:=by rw[List.take_add_one,List.getElem?_eq_getElem hj'];rfl
  obtain⟨bx,ox,oax,rfl,hcx⟩:=hLi j hj';have hzm:=List.getElem_mem hj';generalize (nxtW S k)[j]=z at *;have hg8:h10.get c8=some (.cells [.func (.func 46) ⟨[]⟩ ⟨[.pointer (some ⟨c7,0,none⟩),.pointer (some ⟨c8,0,none⟩)]⟩] 115 false):=hO10.p3;have hg7:h10.get c7=some (.cells [.map (some bl)] 114 false):=hO10.p2;have hfk:=hLd.find hO10 k;have hfz:=hLd.find hO10 z;refine zy ?_;refine zD (A_ix Und.h Tsz.h rfl rfl) ?_;refine ZAL hmix [0,0,3,0,0,31,63,127] [0,1,3,4] (some 2) [([],(some 5)),([],(some 6)),([],(some 7)),([],none)] (by kernel_rfl) (by kernel_rfl) ?_;refine z_l ?_;refine z_m ?_;refine z_l ?_;refine z_m ?_
  refine ZAI [0,1] (by kernel_rfl) rfl (ZAA rfl) rfl nb rfl (ZAX rfl rfl rfl rfl rfl Bod.h hfk ?_);refine ZAI [0,1,2,3,4] (by kernel_rfl) rfl (by refine t_m 4 ?_;refine t_l 3 ?_;exact ZAA rfl) rfl nb rfl (ZAX rfl rfl rfl rfl rfl Bod.h hfz ?_);refine ZAI [0,1,2,3,4,5] (by kernel_rfl) rfl (ZAA rfl) rfl nb rfl (ZCU rfl rfl (ZAj rfl) ?_);refine ZAI [0,1,2,3,4,5,6] (by kernel_rfl) rfl (ZAA rfl) rfl nb rfl (ZCU rfl rfl (ZAj rfl) ?_);refine ZAO (ZAA rfl) nb' ?_;refine zy ?_;refine zD (ZRk rfl rfl) ?_;refine zD (ZRn rfl rfl) ?_;refine ZAy strK (k:=maxB (r k) (r z)) (v:=str (minB (r k) (r z))) hw hE10 rfl Und.h rfl hO10 rfl rfl fun h11 hW11 hO11 hE11=>?_
  refine zy ?_;obtain⟨⟨M,hM1,hM2⟩,hcn⟩:=id hLd;refine⟨(j+1,_,uniR r k z),(by show (nxtW S k).length-(j+1)<(nxtW S k).length-j;omega),rfl,hE11,hj',hO11,hLd.uni hkn hzm,fun k' hk' z' hz'=>ZLS (hV1 k' hk' z' hz'),fun z' hz'=>?_,rfl,rfl,rfl,rfl,rfl,rfl,rfl,rfl,rfl,rfl,trivial⟩;simp only[htk,List.mem_append,List.mem_singleton] at hz'
  rcases hz' with hz'|rfl
  ·exact ZLS (hT z' hz')
  ·exact (ZTH hM2.idem k z').symm
 have hrep:∀k∈nodW S,r k=repW S k:=fun k hk=>by
  obtain⟨⟨M,hM1,hM2⟩,hcn⟩:=id hLd;refine hM2.done hcn (fun k' hk'=>hV1 k' ?_) hk;obtain⟨ax,cx,hlx,-⟩:=hls k' hk';exact hdone k' _ hlx
 have hOw:Own h1 h8 (ZBj c7 c8 bl gl++(mapI strK bm gw::DL)):=(hO8.mid1.as (y:=mapI strK bm gw) (fun hp=>ZG1.mapB strK hp) fun c hc=>.inl hc).mid2;clear hO8 hV1 hVn hV2 hdone;refine zy ?_;refine ZBC fun hW8=>?_;refine ZCe rfl rfl fun h9 hE9 hW9 hg9 hn9=>?_;have hO9:=hOw.newMap (K:=strK) hW8 hE8.2.1 hE9 hg9 (Nat.le_refl _);replace hE9:=hE8.trans hE9;generalize h8.nx=bt at hO9 hg9 ⊢;refine zy ?_;refine ZAJ rfl rfl Zr.h Tsz.h rfl (fun _=>rfl) rfl rfl rfl fun h10 hE10 hW10 hg10 hn10=>?_;have hO10:=hO9.newCe hW9 hE9.2.1 hE10 hg10 (Nat.le_refl _);replace hE10:=hE9.trans hE10;generalize h9.nx=c15 at hO10 hg10 ⊢
 refine zy ?_;refine ZBg rfl rfl Und.h Tsz.h Zr.h rfl rfl rfl rfl rfl fun h11 hE11 hW11 hg11 hn11=>?_;have hO11:=hO10.newCe hW10 hE10.2.1 hE11 hg11 (Nat.le_refl _);replace hE11:=hE10.trans hE11;generalize h10.nx=bk at hO11 hg11 ⊢;refine zy ?_;refine ZAa rfl rfl rfl rfl rfl Bod.h rfl rfl ZOG ?_;rintro _ h12 ⟨c1,c2,rfl,hE12,hI12⟩;have hO12':=hO11.join hW11 hE11.2.1 hE12 hI12;replace hE12:=hE11.trans hE12;have hO12'':Own h1 h12 ([ceI c1 [.slice aS S.length S.length] 90 false,ceI c2 [.slice (some ⟨bk,0,none⟩) 1 1] 46 false,ceI bk [i64 4] 3 false,ceI c15 [.map (some bt)] 117 false,mapI strK bt []]++(ZBj c7 c8 bl gl++(mapI strK bm gw::DL))):=hO12'
 have hO12:Own h1 h12 (ZBj c7 c8 bl gl++([ceI c1 [.slice aS S.length S.length] 90 false,ceI c2 [.slice (some ⟨bk,0,none⟩) 1 1] 46 false,ceI bk [i64 4] 3 false,ceI c15 [.map (some bt)] 117 false,mapI strK bt []]++(mapI strK bm gw::DL))):=hO12''.perm (List.perm_append_comm_assoc [ceI c1 [.slice aS S.length S.length] 90 false,ceI c2 [.slice (some ⟨bk,0,none⟩) 1 1] 46 false,ceI bk [i64 4] 3 false,ceI c15 [.map (some bt)] 117 false,mapI strK bt []] (ZBj c7 c8 bl gl) (mapI strK bm gw::DL));clear hO12' hO12'' hI12 hO11 hO10 hO9 hOw hE8 hE9 hE10 hE11 hg9 hg10 hg11 hn9 hn10 hn11;refine zy ?_;refine ZDY (q:=16) (X:=fun gt=>ZBj c7 c8 bl gl++([ceI c1 [.slice aS S.length S.length] 90 false,ceI c2 [.slice (some ⟨bk,0,none⟩) 1 1] 46 false,ceI bk [i64 4] 3 false,ceI c15 [.map (some bt)] 117 false,mapI strK bt gt]++(mapI strK bm gw::DL))) (ok:=fun pre gt=>ZKg r pre gt) (L:=ofK [4] S) (enc:=encW) (cs:=rowW) (el:=45) (op:=false) (s0:=[]) rfl rfl Bod.h rfl hw hE12 hO12 ⟨by simp[Once],fun _=>rfl⟩ (ZMh (c1:=c1) (c2:=c2) (bk:=bk) (cap:=S.length) (sp:=none) (op:=false) (ks:=[4]) hS (show S.length<_ by omega) (show (1:Nat)<_ by decide) fun st=>⟨by simp,by simp,by simp⟩) (fun l x h'=>?_) (fun l bn pre x post gt h6 R hsp hok hO hE6=>?_) (fun gt h13 hok13 hO13 hE13=>?_)
 ·refine ZBs ?_
  refine ZAJ rfl rfl Zr.h Tsz.h rfl (fun _=>rfl) rfl rfl rfl fun h8 hE8 hW8 hg8 hn8=>?_;exact ZD7 ⟨rfl,rfl,rfl,hE8,hg8⟩
 ·have hgn:h6.get bn=some (.cells (rowW x) 45 false):=hO.p1
  have hO':=hO.rot;have hg8:h6.get c8=some (.cells [.func (.func 46) ⟨[]⟩ ⟨[.pointer (some ⟨c7,0,none⟩),.pointer (some ⟨c8,0,none⟩)]⟩] 115 false):=hO'.p3;have hg15:h6.get c15=some (.cells [.map (some bt)] 117 false):=hO'.at 7 rfl;have hmt:MapB strK h6 bt gt:=hO'.at 8 rfl;have hfx:=hLd.find hO' x.a;have hlk:=hok.2 (r x.a);refine zy ?_;refine ZBF rfl rfl rfl rfl rfl Bod.h rfl rfl hfx ?_;refine zy ?_
  cases hq:titS r pre (r x.a) with
  | none =>
   rw[hq] at hlk;refine zD (ZAZ strK (k:=r x.a) (v:=encW ZIY) (q:=false) Und.h Zr.h rfl hmt rfl (by rw[hlk];rfl) (by rw[hlk];rfl)) ?_;refine ZAJ rfl rfl Zr.h Tsz.h rfl (fun _=>rfl) rfl rfl rfl fun h7 hE7 hW7 hg7 hn7=>?_;have hO7:=(hO'.ext hE7).pick 8 rfl;have hgn7:=hE7.get hgn;have hg157:=hE7.get hg15;refine zy ?_;refine ZAy strK (k:=r x.a) (v:=encW x) hw (hE6.trans hE7) rfl Und.h rfl hO7 rfl rfl fun h14 hW14 hO14 hE14=>?_;refine zy ?_;exact⟨rfl,_,hok.put (fun y hy=>by rw[hq] at hy;cases hy),(hO14.unpick 8 (Nat.le_of_ble_eq_true rfl)).unrot,hE14⟩
  | some y =>
   rw[hq] at hlk;refine zD (ZAZ strK (k:=r x.a) (v:=encW y) (q:=true) Und.h Zr.h rfl hmt rfl (by rw[hlk];rfl) (by rw[hlk];rfl)) ?_;refine ZAJ rfl rfl Zr.h Tsz.h rfl (fun _=>rfl) rfl rfl rfl fun h7 hE7 hW7 hg7 hn7=>?_;have hO7:=(hO'.ext hE7).pick 8 rfl;have hgn7:=hE7.get hgn;have hg157:=hE7.get hg15;refine zy ?_
   by_cases hd:y.day<x.day
   ·refine zD (A_tt hd (ZA4 rfl rfl)) ?_
    refine ZAy strK (k:=r x.a) (v:=encW x) hw (hE6.trans hE7) rfl Und.h rfl hO7 rfl rfl fun h14 hW14 hO14 hE14=>?_;refine zy ?_;exact⟨rfl,_,hok.put (fun y' hy=>by rw[hq] at hy;cases hy;exact hd),(hO14.unpick 8 (Nat.le_of_ble_eq_true rfl)).unrot,hE14⟩
   ·refine zD (A_ff hd (ZA4 rfl rfl)) ?_
    exact⟨rfl,gt,hok.skip hq hd,(hO'.ext hE7).unrot,hE6.trans hE7⟩
 have hO13':Own h1 h13 (ZBj c7 c8 bl gl++(loI h12.nx .defd::ceI c15 [.map (some bt)] 117 false::mapI strK bt gt::mapI strK bm gw::DL)):=by
  have h1':Own h1 h13 (ZBj c7 c8 bl gl++(loI h12.nx .defd::([ceI c1 [.slice aS S.length S.length] 90 false,ceI c2 [.slice (some ⟨bk,0,none⟩) 1 1] 46 false,ceI bk [i64 4] 3 false,ceI c15 [.map (some bt)] 117 false,mapI strK bt gt]++(mapI strK bm gw::DL)))):=hO13.mid2;exact h1'.sub (List.Sublist.append (List.Sublist.refl _) (List.Sublist.cons_cons _ (List.Sublist.cons _ (List.Sublist.cons _ (List.Sublist.cons _ (List.Sublist.refl _))))))
 clear hO13 hO12 hE12;generalize h12.nx=r12 at hO13' ⊢;refine zy ?_;refine ZBC fun hW13=>?_;refine ZCe rfl rfl fun h14 hE14 hW14 hg14 hn14=>?_;have hO14:=hO13'.newMap (K:=strK) hW13 hE13.2.1 hE14 hg14 (Nat.le_refl _);replace hE14:=hE13.trans hE14;generalize h13.nx=ba at hO14 hg14 ⊢;refine zy ?_;refine ZB0 strK hE14 rfl rfl Und.h rfl (hO14.pick 7 rfl) fun h15 hW15 hO15 hE15=>?_;replace hE15:=hE14.trans hE15;generalize h14.nx=rq at hO15 ⊢;have hO15':=(hO15.unpick 7 (Nat.le_of_ble_eq_true rfl)).nilSl 9 1;clear hO15 hO14 hO13' hE14 hE13 hg14 hn14;refine zy ?_;refine ZAN (fun (st:Value×List Str) m ds h'=>ds=[.coll r12]/\Ext h1 h'/\Own h1 h' (slI h1 st.1 9 1 (st.2.reverse.map str) st.2.length::mapI strK ba []::(ZBj c7 c8 bl gl++(loI r12 .defd::ceI c15 [.map (some bt)] 117 false::mapI strK bt gt::itI strK bm rq gw st.2::DL)))/\st.2.Nodup/\(∀k∈st.2,k∈nodW S)/\AllK m [(8,.pointer (some ⟨c8,0,none⟩)),(15,.pointer (some ⟨c15,0,none⟩)),(20,.map (some ba)),(21,st.1),(104,.pointer (some ⟨rq,0,none⟩)),(2,.slice none 0 0)]) (fun st=>(nodW S).length-st.2.length) (.slice none 0 0,[]) ?_ ?_
 ·exact⟨rfl,hE15,hO15',.nil,(fun _ h=>nomatch h),rfl,rfl,rfl,rfl,rfl,rfl,trivial⟩
 clear hO15' hE15 hW15;rintro⟨vs,V⟩ m ds h16 ⟨rfl,hE16,hO16,hVn,hV2,hall⟩;refine Wc.le ?_ (Le.kn hall);clear hall;simp only at hO16 hVn hV2 ⊢;refine zy ?_;refine ZCG strK hw hE16 rfl rfl rfl hon (hO16.pick 8 rfl) (fun hdone=>?_) fun k v h17 hlkv hnk hC hO17 hE17=>?_;rotate_left
 ·have hkn:k∈nodW S:=by
   have:=hk1 k;rw[hlkv] at this;exact of_decide_eq_true this.symm
  have hlt:V.length+1<=(nodW S).length:=by
   have:=ZBH (List.nodup_cons.2 ⟨hnk,hVn⟩) (m:=nodW S) fun k' hk'=>by
    rcases List.mem_cons.1 hk' with rfl|hk'
    ·exact hkn
    ·exact hV2 k' hk'
   simpa using this
  have hO17':Own h1 h17 (slI h1 vs 9 1 (V.reverse.map str) V.length::mapI strK ba []::(ZBj c7 c8 bl gl++(loI r12 .defd::ceI c15 [.map (some bt)] 117 false::mapI strK bt gt::itI strK bm rq gw (k::V)::DL))):=hO17.unpick 8 (Nat.le_of_ble_eq_true rfl);refine zy ?_;refine ZDk strK rfl rfl rfl hC ?_;refine zy ?_;refine ZBg rfl rfl Und.h Tsz.h Zr.h rfl rfl rfl rfl rfl fun h18 hE18 hW18 hg18 hn18=>?_;refine zy ?_;refine ZAo (k:=1) (l:=[str k]) hw (hE17.trans hE18) rfl rfl rfl rfl rfl Und.h inferInstance rfl rfl (hO17'.ext hE18) (ZAs Und.h (by intro k;simp) (ZAP hg18 rfl)) rfl rfl (by omega) (by omega) fun v19 h19 hW19 hO19 hE19=>?_
  refine zy ?_;refine⟨(v19,k::V),(by show (nodW S).length-(V.length+1)<(nodW S).length-V.length;omega),rfl,hE19,?_,List.nodup_cons.2 ⟨hnk,hVn⟩,fun k' hk'=>?_,rfl,rfl,rfl,rfl,rfl,rfl,trivial⟩
  ·simp only[List.reverse_cons,List.map_append,List.map_cons,List.map_nil,List.length_cons]
   exact hO19
  ·rcases List.mem_cons.1 hk' with rfl|hk'
   ·exact hkn
   ·exact hV2 k' hk'
 have hVm:∀k,k∈V ↔ k∈nodW S:=fun k=>⟨hV2 k,fun hk=>by
  obtain⟨ax,cx,hlx,-⟩:=hls k hk;exact hdone k _ hlx⟩
 have hVl:V.length=(ZAQ S).length:=by
  rw[<-ZI5 hVn hVm,(List.mergeSort_perm _ _).length_eq,List.length_reverse]
 have hNl:(ZAQ S).length<=10000:=Nat.le_trans (ZFU ZAR _) hnl;have hO16':Own h1 h16 (slI h1 vs 9 1 (V.reverse.map str) V.length::mapI strK ba []::(ZBj c7 c8 bl gl++[loI r12 .defd,ceI c15 [.map (some bt)] 117 false,mapI strK bt gt])):=hO16.sub (List.Sublist.cons_cons _ (List.Sublist.cons_cons _ (List.Sublist.append (List.Sublist.refl _) (List.Sublist.cons_cons _ (List.Sublist.cons_cons _ (List.Sublist.cons_cons _ (List.nil_sublist _)))))));clear hO16 hdone;refine zy ?_;refine ZBC fun hW16=>?_;refine zR (ZHT (show ZAF h1 h16 vs 9 1 (V.reverse.map str) V.length from hO16'.p1) (by omega)) ?_;rintro _ h17 ⟨rfl,hF17,hX17⟩
 rw[ZI5 hVn hVm,hVl] at hF17;have hO17:Own h1 h17 (slI h1 vs 9 1 ((ZAQ S).map str) (ZAQ S).length::_):=hO16'.put hW16 hE16.2.1 hX17 hF17 fun c hc=>.inl hc;have hE17:=hO16'.grows hX17 hE16 hw;clear hO16' hX17 hF17 hVm hVl hVn hV2 hE16;have hO18':=hO17.nilSl 84 3;have hO18:Own h1 h17 (ZBj c7 c8 bl gl++(mapI strK ba []::slI h1 vs 9 1 ((ZAQ S).map str) (ZAQ S).length::loI r12 .defd::ceI c15 [.map (some bt)] 117 false::mapI strK bt gt::allX h1 (.slice none 0 0) [])):=hO18'.shuf (ceI 0 [] 0 false) xF43 [3,4,5,2,1,6,7,8,0] (by decide) rfl;clear hO18' hO17;have htit:ZKg (repW S) (ofK [4] S) gt:=by
  refine⟨hok13.1,fun k=>?_⟩
  rw[hok13.2,ZRW fun x hx=>hrep x.a (by
   unfold nodW;exact List.mem_append_right _ (List.mem_map.2 ⟨x,hx,rfl⟩))]
 clear hok13;have hmem:∀k,k∈ZAQ S ↔ k∈nodW S:=fun k=>ZBS ZAR
 have hwl:∀p1 p2,p1.length<=(ZAQ S).length->(ZB5 (repW S) (titB (repW S) (ofK [4] S)) p1 p2).length<=10000:=fun p1 p2 hp=>by
  unfold ZB5 ZCQ;rw[List.length_map];have h1:=ZPG ((p1.filter fun k=>!ZCF k).map (repW S));rw[List.length_map] at h1;have h2:=List.length_filter_le (fun k=>!ZCF k) p1;omega
 obtain⟨avs,evs,-,hLvs⟩:=ZAF.srcAt (show ZAF h1 h17 vs 9 1 ((ZAQ S).map str) (ZAQ S).length from hO18.at 4 rfl);subst evs;refine zy ?_;refine ZAN (fun (st:Nat×Value×List WkM×List (Str×Value)) m ds h'=>ds=[.coll r12]/\Ext h1 h'/\st.1<=(ZAQ S).length/\Own h1 h' (ZBj c7 c8 bl gl++(mapI strK ba st.2.2.2::slI h1 (.slice avs (ZAQ S).length (ZAQ S).length) 9 1 ((ZAQ S).map str) (ZAQ S).length::loI r12 .defd::ceI c15 [.map (some bt)] 117 false::mapI strK bt gt::allX h1 st.2.1 st.2.2.1))/\st.2.2.1.map spM=ZB5 (repW S) (titB (repW S) (ofK [4] S)) ((ZAQ S).take st.1) []/\AtOK st.2.2.2 (ZCQ (repW S) ((ZAQ S).take st.1))/\AllK m [(2,st.2.1),(8,.pointer (some ⟨c8,0,none⟩)),(15,.pointer (some ⟨c15,0,none⟩)),(20,.map (some ba)),(21,.slice avs (ZAQ S).length (ZAQ S).length),(115,.slice avs (ZAQ S).length (ZAQ S).length),(116,i64 (ZAQ S).length),(117,i64 (st.1:Nat))]) (fun st=>(ZAQ S).length-st.1) (0,.slice none 0 0,[],[]) ?_ ?_
 ·exact⟨rfl,hE17,Nat.zero_le _,hO18,rfl,AtOK.nil,rfl,rfl,rfl,rfl,rfl,rfl,rfl,rfl,trivial⟩
 clear hO18 hE17 hLvs;rintro⟨i,va,A,gat⟩ m ds h19 ⟨rfl,hE19,hi,hO19,hA,hat,hall⟩;refine Wc.le ?_ (Le.kn hall);clear hall;simp only at hi hO19 hA hat ⊢;refine zy ?_;refine zC (ZAU rfl rfl) (fun hil=>?_) (fun hil=>?_)
 ·have hi':i<(ZAQ S).length:=by omega
  have htk:(ZAQ S).take (i+1)=(ZAQ S).take i++[(ZAQ S)[i]]:=by rw[List.take_add_one,List.getElem?_eq_getElem hi'];rfl
  obtain⟨av2,ev2,-,hLi⟩:=ZAF.srcAt (show ZAF h1 h19 (.slice avs (ZAQ S).length (ZAQ S).length) 9 1 ((ZAQ S).map str) (ZAQ S).length from hO19.at 4 rfl);obtain⟨bx,ox,oax,rfl,hcx⟩:=hLi.1 i hi';cases ev2;have hkn:=(hmem _).1 (List.getElem_mem hi');have hpl:((ZAQ S).take i).length<=(ZAQ S).length:=by rw[List.length_take];omega
  generalize (ZAQ S)[i]=k at *;have hks:=ZLt hsg hkn;have hrk:=hrep k hkn;have hAl:A.length<=10000:=by
   have:=congrArg List.length hA;rw[List.length_map] at this;rw[this];exact hwl _ _ hpl
  generalize (ZAQ S).take i=p at *;refine zy ?_;refine zD (A_ix Und.h Tsz.h rfl rfl) ?_;refine zU (ZGo (p:=[35]) (show k.length<_ by omega) (by decide)) ?_;unfold cutP
  by_cases hh:k.take ([35]:Str).length=[35]
  ·have hhb:ZCF k=true:=decide_eq_true hh
   rw[if_pos hh];refine zy ?_;refine⟨(i+1,va,A,gat),(by show (ZAQ S).length-(i+1)<(ZAQ S).length-i;omega),rfl,hE19,hi',hO19,?_,?_,rfl,rfl,rfl,rfl,rfl,rfl,rfl,rfl,trivial⟩
   ·simp only[htk]
    rw[hA];unfold ZB5;rw[ZIw hhb,ZL4 hhb]
   ·simp only[htk]
    rw[ZIw hhb];exact hat
  have hhb:ZCF k=false:=decide_eq_false hh;rw[if_neg hh];have hfk:=hLd.find hO19 k;rw[hrk] at hfk;have hg8:h19.get c8=some (.cells [.func (.func 46) ⟨[]⟩ ⟨[.pointer (some ⟨c7,0,none⟩),.pointer (some ⟨c8,0,none⟩)]⟩] 115 false):=hO19.p3;have hma:MapB strK h19 ba gat:=hO19.p4;have hlka:=hat.2 (repW S k);refine zy ?_;refine ZBF rfl rfl rfl rfl rfl Bod.h rfl rfl hfk ?_;refine zy ?_
  by_cases hq:repW S k∈ZCQ (repW S) p
  ·rw[if_pos hq] at hlka
   refine zE (ZAZ strK (k:=repW S k) (v:=i64 ((ZCQ (repW S) p).idxOf (repW S k):Nat)) (q:=true) Und.h Zr.h rfl hma rfl (by rw[hlka];rfl) (by rw[hlka];rfl)) ?_;have hAt:=ZKf (r:=repW S) (tit:=titB (repW S) (ofK [4] S)) (p2:=[]) hq;have hAold:=ZOe (r:=repW S) (tit:=titB (repW S) (ofK [4] S)) (p2:=[]) hhb hq;have hroot:=ZEi (r:=repW S) (p:=p) hhb;rw[if_pos hq] at hroot;rw[<-hA] at hAt hAold;generalize (ZCQ (repW S) p).idxOf (repW S k)=j at *;obtain⟨a,hAj,hsa⟩:∃a,A[j]?=some a/\spM a=ZBb (repW S) (titB (repW S) (ofK [4] S)) p [] (repW S k):=by
    rw[List.getElem?_map] at hAt
    cases hz:A[j]? with
    | none=>rw[hz] at hAt;cases hAt
    | some a=>rw[hz] at hAt;exact⟨a,rfl,Option.some.inj hAt⟩
   have hjA:j<A.length:=(List.getElem?_eq_some_iff.1 hAj).1;have hatj:(lkp (repW S k) gat).getD (i64 0)=i64 (j:Nat):=by rw[hlka];rfl
   have hal:a.2.1.length<=10000:=by
    have h1:=congrArg (fun w:WkO=>w.1.length) hsa;have h2:(ZBb (repW S) (titB (repW S) (ofK [4] S)) p [] (repW S k)).1.length<=p.length:=Nat.le_trans (List.length_filter_le _ _) (List.length_filter_le _ _);have h3:a.2.1.length=(ZBb (repW S) (titB (repW S) (ofK [4] S)) p [] (repW S k)).1.length:=h1;omega
   refine zy ?_;obtain⟨bA,spA,opA,rfl,hgA0,hlA0,hbA0⟩:=ZAF.blk (show ZAF h1 h19 va 84 3 ((A).flatMap rowM) (A).length from hO19.at 8 rfl) (by omega);have hfk2:=hLd.find hO19 k;rw[hrk] at hfk2;have hg82:h19.get c8=some (.cells [.func (.func 46) ⟨[]⟩ ⟨[.pointer (some ⟨c7,0,none⟩),.pointer (some ⟨c8,0,none⟩)]⟩] 115 false):=hO19.p3;have hma2:MapB strK h19 ba gat:=hO19.p4;obtain⟨Rr,ht1,ht2⟩:=ZH2 h1 (.slice (some ⟨bA,0,spA⟩) (A).length (A).length) hAj;have hOa:Own h1 h19 ((ZBj c7 c8 bl gl++[mapI strK ba gat,slI h1 (.slice (some ⟨bx,ox,oax⟩) (ZAQ S).length (ZAQ S).length) 9 1 ((ZAQ S).map str) (ZAQ S).length,loI r12 .defd,ceI c15 [.map (some bt)] 117 false,mapI strK bt gt])++allX h1 (.slice (some ⟨bA,0,spA⟩) (A).length (A).length) (A)):=hO19
   have hOb:=ht1 h19 _ hOa;obtain⟨opB,hgB,hcB⟩:=ZDh (t:=0) (v:=a.1) hOb.up3 hAj (by decide) rfl;refine zy ?_;refine ZBF rfl rfl rfl rfl rfl Bod.h rfl rfl hfk2 ?_;refine zy ?_;refine zD (ZBN strK (k:=repW S k) (v:=i64 (j:Nat)) Und.h Zr.h rfl hma2 rfl hatj) ?_;refine zD (ZAE (k:=j) Und.h Tsz.h rfl rfl rfl hjA) ?_;refine ZBg rfl rfl Und.h Tsz.h Zr.h rfl rfl rfl rfl rfl fun h30 hE30 hW30 hg30 hn30=>?_;refine zy ?_;refine ZAo (k:=1) (l:=[str k]) hw (hE19.trans hE30) rfl rfl rfl rfl rfl Und.h inferInstance rfl rfl (show Own h1 h30 (slI h1 a.1 9 1 (a.2.1.map str) a.2.1.length::_) from hOb.ext hE30) (ZAs Und.h (by intro k;simp) (ZAP hg30 rfl)) rfl rfl (by omega) (by omega) fun v31 h31 hW31 hO31 hE31=>?_
   have hO31':Own h1 h31 (nmI h1 (v31,a.2.1++[k],a.2.2)::itI' h1 (v31,a.2.1++[k],a.2.2)::topM h1 (.slice (some ⟨bA,0,spA⟩) (A).length (A).length) (A)::((ZBj c7 c8 bl gl++[mapI strK ba gat,slI h1 (.slice (some ⟨bx,ox,oax⟩) (ZAQ S).length (ZAQ S).length) 9 1 ((ZAQ S).map str) (ZAQ S).length,loI r12 .defd,ceI c15 [.map (some bt)] 117 false,mapI strK bt gt])++Rr)):=by
    unfold nmI;simp only[List.map_append,List.map_cons,List.map_nil,List.length_append,List.length_singleton];exact hO31
   obtain⟨opC,hgC,-⟩:=ZDh (t:=0) (v:=a.1) hO31'.up3 hAj (by decide) rfl;obtain⟨a31,e31,-⟩:=ZAF.is (show ZAF h1 h31 v31 9 1 ((a.2.1++[k]).map str) (a.2.1++[k]).length from hO31'.p1);subst e31;have hly:0+j*3+0<((A).flatMap rowM).length:=by rw[ZJr];omega
   refine zy ?_;refine ZAf rfl Tsz.h rfl rfl hgC rfl rfl (ZCH hly) fun h32 hU32=>?_;have hset:((A).flatMap rowM).set (0+j*3+0) (.slice a31 (a.2.1++[k]).length (a.2.1++[k]).length)=(((A).set j (.slice a31 (a.2.1++[k]).length (a.2.1++[k]).length,a.2.1++[k],a.2.2))).flatMap rowM:=by
    rw[Nat.zero_add];exact ZG8 (enc:=rowM) (k:=3) (fun _=>rfl) (t:=0) (by decide) hAj rfl
   have hO31u:Own h1 h31 (slI h1 (.slice (some ⟨bA,0,spA⟩) (A).length (A).length) 84 3 ((A).flatMap rowM) (A).length::nmI h1 (.slice a31 (a.2.1++[k]).length (a.2.1++[k]).length,a.2.1++[k],a.2.2)::itI' h1 (.slice a31 (a.2.1++[k]).length (a.2.1++[k]).length,a.2.1++[k],a.2.2)::((ZBj c7 c8 bl gl++[mapI strK ba gat,slI h1 (.slice (some ⟨bx,ox,oax⟩) (ZAQ S).length (ZAQ S).length) 9 1 ((ZAQ S).map str) (ZAQ S).length,loI r12 .defd,ceI c15 [.map (some bt)] 117 false,mapI strK bt gt])++Rr)):=hO31'.up3;obtain⟨hO32,hE32⟩:=Own.setRow hO31u hW31 hE31 hw hU32 (by rw[List.length_set]);rw[hset] at hO32
   have hO33:=ht2 h32 _ (.slice a31 (a.2.1++[k]).length (a.2.1++[k]).length,a.2.1++[k],a.2.2) (.slice (some ⟨bA,0,spA⟩) (A).length (A).length) (by
    have h1:=hO32.dn3;unfold topM;rw[List.length_set];exact h1)
   refine zy ?_;refine⟨(i+1,.slice (some ⟨bA,0,spA⟩) A.length A.length,A.set j (_,a.2.1++[k],a.2.2),gat),(by show (ZAQ S).length-(i+1)<(ZAQ S).length-i;omega),rfl,hE32,hi',hO33,?_,?_,rfl,rfl,rfl,rfl,rfl,rfl,rfl,rfl,trivial⟩
   ·simp only[htk,List.map_set]
    rw[hAold,<-hsa];rfl
   ·simp only[htk]
    rw[hroot];exact hat
  rw[if_neg hq] at hlka;refine zE (ZAZ strK (k:=repW S k) (v:=i64 0) (q:=false) Und.h Zr.h rfl hma rfl (by rw[hlka];rfl) (by rw[hlka];rfl)) ?_;have hroot:=ZEi (r:=repW S) (p:=p) hhb;rw[if_neg hq] at hroot;have hAnew:=ZOg (r:=repW S) (tit:=titB (repW S) (ofK [4] S)) hhb hq;have hRl:(ZCQ (repW S) p).length=A.length:=by
   have:=congrArg List.length hA;rw[List.length_map] at this;rw[this];unfold ZB5;rw[List.length_map]
  have hat2:=hat.add hq;rw[hRl] at hat2;rw[<-hA] at hAnew;have hlt':=htit.2 (repW S k);obtain⟨y,hy1,hy2⟩:∃y:WkR,(lkp (repW S k) gt).getD (encW ZIY)=encW y/\y.b=titB (repW S) (ofK [4] S) (repW S k):=by
   rw[hlt'];unfold titB
   cases titS (repW S) (ofK [4] S) (repW S k) with
   | none=>exact⟨ZIY,rfl,rfl⟩
   | some y=>exact⟨y,rfl,rfl⟩
  obtain⟨ava,eva,-⟩:∃av,va=.slice av A.length A.length/\True:=by
   obtain⟨av,e1,-⟩:=ZAF.is (show ZAF h1 h19 va 84 3 (A.flatMap rowM) A.length from hO19.at 8 rfl);exact⟨av,e1,trivial⟩
  subst eva;refine zy ?_;refine ZBF rfl rfl rfl rfl rfl Bod.h rfl rfl hfk ?_;refine zy ?_;refine ZAy strK (k:=repW S k) (v:=i64 (A.length:Nat)) hw hE19 rfl Und.h rfl (hO19.pick 3 rfl) rfl rfl fun h20 hW20 hO20' hE20=>?_;have hO20:Own h1 h20 (ZBj c7 c8 bl gl++(mapI strK ba (setK (repW S k) (i64 (A.length:Nat)) gat)::slI h1 (.slice (some ⟨bx,ox,oax⟩) (ZAQ S).length (ZAQ S).length) 9 1 ((ZAQ S).map str) (ZAQ S).length::loI r12 .defd::ceI c15 [.map (some bt)] 117 false::mapI strK bt gt::allX h1 (.slice ava A.length A.length) A)):=hO20'.unpick 3 (Nat.le_of_ble_eq_true rfl);clear hO20' hO19 hg8 hma;have hfk3:=hLd.find hO20 k
  rw[hrk] at hfk3;have hg83:h20.get c8=some (.cells [.func (.func 46) ⟨[]⟩ ⟨[.pointer (some ⟨c7,0,none⟩),.pointer (some ⟨c8,0,none⟩)]⟩] 115 false):=hO20.p3;have hg153:h20.get c15=some (.cells [.map (some bt)] 117 false):=hO20.at 6 rfl;have hmt3:MapB strK h20 bt gt:=hO20.at 7 rfl;have hO21:=hO20.pick 8 rfl;generalize titB (repW S) (ofK [4] S)=tit at *;have hEa:Ext h20 (Heap.add h20 (.cells [.slice none 0 0,.slice none 0 0,str y.b] 84 false)):=Ext.add hW20 _;have hFa:ZAF h1 (Heap.add h20 (.cells [.slice none 0 0,.slice none 0 0,str y.b] 84 false)) (.slice (some ⟨h20.nx,0,none⟩) 1 1) 84 3 [.slice none 0 0,.slice none 0 0,str y.b] 1:=ZAF.lit Heap.get_add_same rfl hE20.2.1
  refine zy ?_;refine ZAL hmix [0,0,0,0,12,30,62,126,254,511,1023] [0,1,2,3] (some 4) [([5,6,7,8],(some 9)),([],(some 10)),([],none)] (by kernel_rfl) (by kernel_rfl) ?_;refine z_m ?_;refine z_l ?_;refine z_l ?_;refine z_m ?_;refine ZAI [2,3] (by kernel_rfl) rfl (ZAA rfl) rfl nb rfl (ZAX rfl rfl rfl rfl rfl Bod.h hfk3 ?_);refine ZAB rfl rfl rfl rfl rfl (fun _=>ZBN strK (k:=repW S k) (v:=encW y) Und.h Zr.h rfl hmt3 rfl hy1) ?_;refine ZAB rfl rfl rfl rfl rfl (fun _=>ZQF rfl rfl) ?_;refine z_b ?_;refine ZDS (nk:=.sl _ _) rfl rfl rfl rfl rfl (fun _ _ hs=>N_bs hs Und.h Tsz.h Zr.h rfl rfl rfl rfl rfl) ?_
  refine ZAI (h1:=(Heap.add h20 _)) xF43 (by kernel_rfl) rfl (by refine t_l 1 ?_;refine t_m 0 ?_;exact ZAA rfl) rfl rfl rfl (ZAu (ZCh (by':=64) (sz:=3) (k:=1) (n:=A.length) (l:=[.slice none 0 0,.slice none 0 0,str y.b]) rfl hw (hE20.trans hEa) rfl rfl rfl rfl Und.h inferInstance rfl rfl (hO21.ext hEa) (hFa.src (dd:=.slice 84) Und.h (by intro k;simp)) rfl rfl (by omega) (by omega) (fun v22 h22 hO22 hE22 hw22=>?_)));have hO22':Own h1 h22 (topM h1 v22 (A++[(.slice none 0 0,[],.slice none 0 0,[],y.b)])::((ZBj c7 c8 bl gl++[mapI strK ba (setK (repW S k) (i64 (A.length:Nat)) gat),slI h1 (.slice (some ⟨bx,ox,oax⟩) (ZAQ S).length (ZAQ S).length) 9 1 ((ZAQ S).map str) (ZAQ S).length,loI r12 .defd,ceI c15 [.map (some bt)] 117 false,mapI strK bt gt])++A.flatMap (slM h1))):=by
   unfold topM;rw[List.flatMap_append,List.length_append];exact hO22
  have hO23:=ZQz hO22';refine ZAI (h1:=h22) [0,1,2,3,4,5,6,7,8,9] (by kernel_rfl) rfl (ZAA rfl) rfl rfl rfl (ZCU rfl rfl (ZAj rfl) ?_);refine ZAO (h1:=h22) (ZAA rfl) rfl ?_;clear hO22 hO22' hO21 hO20 hFa hEa hmt3 hg153 hg83 hfk3 hfk;refine zy ?_;obtain⟨j,hje⟩:∃j,j=A.length:=⟨_,rfl⟩;have hAj:(A++[((.slice none 0 0,[],.slice none 0 0,[],y.b):WkM)])[j]?=some (.slice none 0 0,[],.slice none 0 0,[],y.b):=by
   rw[hje,List.getElem?_append_right (Nat.le_refl _),Nat.sub_self];rfl
  have hatj:(lkp (repW S k) (setK (repW S k) (i64 (A.length:Nat)) gat)).getD (i64 0)=i64 (j:Nat):=by rw[ZBw,if_pos rfl,hje];rfl
  generalize hgat':setK (repW S k) (i64 (A.length:Nat)) gat=gat' at *;generalize hAA:A++[((.slice none 0 0,[],.slice none 0 0,[],y.b):WkM)]=AA at *;have hAAl:AA.length=A.length+1:=by rw[<-hAA,List.length_append];rfl
  have hjA:j<AA.length:=by omega
  generalize ha:((.slice none 0 0,[],.slice none 0 0,[],y.b):WkM)=a at *;have hal:a.2.1.length<=10000:=by rw[<-ha];simp
  have hO24:Own h1 h22 (ZBj c7 c8 bl gl++(mapI strK ba gat'::slI h1 (.slice (some ⟨bx,ox,oax⟩) (ZAQ S).length (ZAQ S).length) 9 1 ((ZAQ S).map str) (ZAQ S).length::loI r12 .defd::ceI c15 [.map (some bt)] 117 false::mapI strK bt gt::allX h1 v22 AA)):=hO23;clear hO23;obtain⟨bA,spA,opA,rfl,hgA0,hlA0,hbA0⟩:=ZAF.blk (show ZAF h1 h22 v22 84 3 ((AA).flatMap rowM) (AA).length from hO24.at 8 rfl) (by omega);have hfk2:=hLd.find hO24 k;rw[hrk] at hfk2;have hg82:h22.get c8=some (.cells [.func (.func 46) ⟨[]⟩ ⟨[.pointer (some ⟨c7,0,none⟩),.pointer (some ⟨c8,0,none⟩)]⟩] 115 false):=hO24.p3;have hma2:MapB strK h22 ba gat':=hO24.p4
  obtain⟨Rr,ht1,ht2⟩:=ZH2 h1 (.slice (some ⟨bA,0,spA⟩) (AA).length (AA).length) hAj;have hOa:Own h1 h22 ((ZBj c7 c8 bl gl++[mapI strK ba gat',slI h1 (.slice (some ⟨bx,ox,oax⟩) (ZAQ S).length (ZAQ S).length) 9 1 ((ZAQ S).map str) (ZAQ S).length,loI r12 .defd,ceI c15 [.map (some bt)] 117 false,mapI strK bt gt])++allX h1 (.slice (some ⟨bA,0,spA⟩) (AA).length (AA).length) (AA)):=hO24;have hOb:=ht1 h22 _ hOa;obtain⟨opB,hgB,hcB⟩:=ZDh (t:=0) (v:=a.1) hOb.up3 hAj (by decide) rfl;refine zy ?_;refine ZBF rfl rfl rfl rfl rfl Bod.h rfl rfl hfk2 ?_;refine zy ?_;refine zD (ZBN strK (k:=repW S k) (v:=i64 (j:Nat)) Und.h Zr.h rfl hma2 rfl hatj) ?_
  refine zD (ZAE (k:=j) Und.h Tsz.h rfl rfl rfl hjA) ?_;refine ZBg rfl rfl Und.h Tsz.h Zr.h rfl rfl rfl rfl rfl fun h30 hE30 hW30 hg30 hn30=>?_;refine zy ?_;refine ZAo (k:=1) (l:=[str k]) hw (hE22.trans hE30) rfl rfl rfl rfl rfl Und.h inferInstance rfl rfl (show Own h1 h30 (slI h1 a.1 9 1 (a.2.1.map str) a.2.1.length::_) from hOb.ext hE30) (ZAs Und.h (by intro k;simp) (ZAP hg30 rfl)) rfl rfl (by omega) (by omega) fun v31 h31 hW31 hO31 hE31=>?_;have hO31':Own h1 h31 (nmI h1 (v31,a.2.1++[k],a.2.2)::itI' h1 (v31,a.2.1++[k],a.2.2)::topM h1 (.slice (some ⟨bA,0,spA⟩) (AA).length (AA).length) (AA)::((ZBj c7 c8 bl gl++[mapI strK ba gat',slI h1 (.slice (some ⟨bx,ox,oax⟩) (ZAQ S).length (ZAQ S).length) 9 1 ((ZAQ S).map str) (ZAQ S).length,loI r12 .defd,ceI c15 [.map (some bt)] 117 false,mapI strK bt gt])++Rr)):=by
   unfold nmI;simp only[List.map_append,List.map_cons,List.map_nil,List.length_append,List.length_singleton];exact hO31
  obtain⟨opC,hgC,-⟩:=ZDh (t:=0) (v:=a.1) hO31'.up3 hAj (by decide) rfl;obtain⟨a31,e31,-⟩:=ZAF.is (show ZAF h1 h31 v31 9 1 ((a.2.1++[k]).map str) (a.2.1++[k]).length from hO31'.p1);subst e31;have hly:0+j*3+0<((AA).flatMap rowM).length:=by rw[ZJr];omega
  refine zy ?_;refine ZAf rfl Tsz.h rfl rfl hgC rfl rfl (ZCH hly) fun h32 hU32=>?_;have hset:((AA).flatMap rowM).set (0+j*3+0) (.slice a31 (a.2.1++[k]).length (a.2.1++[k]).length)=(((AA).set j (.slice a31 (a.2.1++[k]).length (a.2.1++[k]).length,a.2.1++[k],a.2.2))).flatMap rowM:=by
   rw[Nat.zero_add];exact ZG8 (enc:=rowM) (k:=3) (fun _=>rfl) (t:=0) (by decide) hAj rfl
  have hO31u:Own h1 h31 (slI h1 (.slice (some ⟨bA,0,spA⟩) (AA).length (AA).length) 84 3 ((AA).flatMap rowM) (AA).length::nmI h1 (.slice a31 (a.2.1++[k]).length (a.2.1++[k]).length,a.2.1++[k],a.2.2)::itI' h1 (.slice a31 (a.2.1++[k]).length (a.2.1++[k]).length,a.2.1++[k],a.2.2)::((ZBj c7 c8 bl gl++[mapI strK ba gat',slI h1 (.slice (some ⟨bx,ox,oax⟩) (ZAQ S).length (ZAQ S).length) 9 1 ((ZAQ S).map str) (ZAQ S).length,loI r12 .defd,ceI c15 [.map (some bt)] 117 false,mapI strK bt gt])++Rr)):=hO31'.up3;obtain⟨hO32,hE32⟩:=Own.setRow hO31u hW31 hE31 hw hU32 (by rw[List.length_set]);rw[hset] at hO32
  have hO33:=ht2 h32 _ (.slice a31 (a.2.1++[k]).length (a.2.1++[k]).length,a.2.1++[k],a.2.2) (.slice (some ⟨bA,0,spA⟩) (AA).length (AA).length) (by
   have h1:=hO32.dn3;unfold topM;rw[List.length_set];exact h1)
  refine zy ?_;refine⟨(i+1,.slice (some ⟨bA,0,spA⟩) AA.length AA.length,AA.set j (_,a.2.1++[k],a.2.2),gat'),(by show (ZAQ S).length-(i+1)<(ZAQ S).length-i;omega),rfl,hE32,hi',hO33,?_,?_,rfl,rfl,rfl,rfl,rfl,rfl,rfl,rfl,trivial⟩
  ·simp only[htk,List.map_set]
   rw[hAnew,<-hAA,<-ha,hje,List.map_append,List.set_append_right _ _ (by simp)];simp[spM,hy2]
  ·simp only[htk]
   rw[hroot];exact hat2
 have hil2:i=(ZAQ S).length:=by omega
 subst hil2;rw[List.take_length] at hA hat;refine zy ?_;refine ZAN (fun (st:Nat×Value×List WkM) m ds h'=>ds=[r12].map .coll/\Ext h1 h'/\st.1<=(ZAQ S).length/\Own h1 h' (ZBj c7 c8 bl gl++(mapI strK ba gat::slI h1 (.slice avs (ZAQ S).length (ZAQ S).length) 9 1 ((ZAQ S).map str) (ZAQ S).length::loI r12 .defd::ceI c15 [.map (some bt)] 117 false::mapI strK bt gt::allX h1 st.2.1 st.2.2))/\st.2.2.map spM=ZB5 (repW S) (titB (repW S) (ofK [4] S)) (ZAQ S) ((ZAQ S).take st.1)/\AllK m [(2,st.2.1),(8,.pointer (some ⟨c8,0,none⟩)),(20,.map (some ba)),(172,.slice avs (ZAQ S).length (ZAQ S).length),(173,i64 (ZAQ S).length),(174,i64 (st.1:Nat))]) (fun st=>(ZAQ S).length-st.1) (0,va,A) ?_ ?_
 ·exact⟨rfl,hE19,Nat.zero_le _,hO19,by rw[List.take_zero];exact hA,rfl,rfl,rfl,rfl,rfl,rfl,trivial⟩
 clear hO19 hE19 hA;rintro⟨i,va,A⟩ m ds h19 ⟨rfl,hE19,hi,hO19,hA,hall⟩;refine Wc.le ?_ (Le.kn hall);clear hall;simp only at hi hO19 hA ⊢;refine zy ?_;refine zC (ZAU rfl rfl) (fun hil=>?_) (fun hil=>?_);rotate_left
 ·have hil2:i=(ZAQ S).length:=by omega
  subst hil2;rw[List.take_length] at hA;have hOf:Own h1 h19 ([r12].map (fun r=>loI r .defd)++allX h1 va A):=hO19.sub (List.sublist_append_of_sublist_right (List.Sublist.cons _ (List.Sublist.cons _ (List.Sublist.cons_cons _ (List.Sublist.cons _ (List.Sublist.cons _ (List.Sublist.refl _)))))));have hcl:ZCr h1 h19 [r12]:=hOf.colls;refine zy ?_
  exact ZAC (ZJz hcl.nd hcl.defd rfl ⟨.inr ⟨hc,va,rfl,fun h'' hk=>by
   have h2:=ZSy (hOf.del.frame fun c o hc hg=>hk c o (Nat.le_trans hE1.2.1 hc) hg);rw[hA] at h2;exact h2⟩,hE1.trans (hcl.ext0 hE19 hw)⟩)
 have hi':i<(ZAQ S).length:=by omega
 have htk:(ZAQ S).take (i+1)=(ZAQ S).take i++[(ZAQ S)[i]]:=by rw[List.take_add_one,List.getElem?_eq_getElem hi'];rfl
 obtain⟨av2,ev2,-,hLi⟩:=ZAF.srcAt (show ZAF h1 h19 (.slice avs (ZAQ S).length (ZAQ S).length) 9 1 ((ZAQ S).map str) (ZAQ S).length from hO19.at 4 rfl);obtain⟨bx,ox,oax,rfl,hcx⟩:=hLi.1 i hi';cases ev2;have hkn:=(hmem _).1 (List.getElem_mem hi');have hpl:((ZAQ S).take i).length<=(ZAQ S).length:=by rw[List.length_take];omega
 generalize (ZAQ S)[i]=k at *;have hks:=ZLt hsg hkn;have hrk:=hrep k hkn;have hAl:A.length<=10000:=by
  have:=congrArg List.length hA;rw[List.length_map] at this;rw[this];exact hwl _ _ (Nat.le_refl _)
 generalize (ZAQ S).take i=p at *;refine zy ?_;refine zD (A_ix Und.h Tsz.h rfl rfl) ?_;refine zU (ZGo (p:=[35]) (show k.length<_ by omega) (by decide)) ?_;unfold cutP
 by_cases hh:k.take ([35]:Str).length=[35]
 rotate_left
 ·have hhb:ZCF k=false:=decide_eq_false hh
  rw[if_neg hh];refine zy ?_;refine⟨(i+1,va,A),(by show (ZAQ S).length-(i+1)<(ZAQ S).length-i;omega),rfl,hE19,hi',hO19,?_,rfl,rfl,rfl,rfl,rfl,rfl,trivial⟩;simp only[htk];rw[hA];unfold ZB5;rw[ZMO hhb]
 have hhb:ZCF k=true:=decide_eq_true hh;rw[if_pos hh];have hq:=ZQC hsg hkn hhb;have hlka:=hat.2 (repW S k);rw[if_pos hq] at hlka;have hAt:=ZKf (r:=repW S) (tit:=titB (repW S) (ofK [4] S)) (p2:=p) hq;have hAold:=ZMu (r:=repW S) (tit:=titB (repW S) (ofK [4] S)) (p1:=ZAQ S) (p:=p) hhb hq;rw[<-hA] at hAt hAold;generalize (ZCQ (repW S) (ZAQ S)).idxOf (repW S k)=j at *;obtain⟨a,hAj,hsa⟩:∃a,A[j]?=some a/\spM a=ZBb (repW S) (titB (repW S) (ofK [4] S)) (ZAQ S) p (repW S k):=by
  rw[List.getElem?_map] at hAt
  cases hz:A[j]? with
  | none=>rw[hz] at hAt;cases hAt
  | some a=>rw[hz] at hAt;exact⟨a,rfl,Option.some.inj hAt⟩
 have hjA:j<A.length:=(List.getElem?_eq_some_iff.1 hAj).1;have hatj:(lkp (repW S k) gat).getD (i64 0)=i64 (j:Nat):=by rw[hlka];rfl
 have hal:a.2.2.2.1.length<=10000:=by
  have h1:=congrArg (fun w:WkO=>w.2.1.length) hsa;have h2:(ZBb (repW S) (titB (repW S) (ofK [4] S)) (ZAQ S) p (repW S k)).2.1.length<=p.length:=by
   unfold ZBb;simp only[List.length_map];exact Nat.le_trans (List.length_filter_le _ _) (List.length_filter_le _ _)
  have h3:a.2.2.2.1.length=(ZBb (repW S) (titB (repW S) (ofK [4] S)) (ZAQ S) p (repW S k)).2.1.length:=h1;omega
 refine zy ?_;obtain⟨bA,spA,opA,rfl,hgA0,hlA0,hbA0⟩:=ZAF.blk (show ZAF h1 h19 va 84 3 ((A).flatMap rowM) (A).length from hO19.at 8 rfl) (by omega);have hfk2:=hLd.find hO19 k;rw[hrk] at hfk2;have hg82:h19.get c8=some (.cells [.func (.func 46) ⟨[]⟩ ⟨[.pointer (some ⟨c7,0,none⟩),.pointer (some ⟨c8,0,none⟩)]⟩] 115 false):=hO19.p3;have hma2:MapB strK h19 ba gat:=hO19.p4;obtain⟨Rr,ht1,ht2⟩:=ZH2 h1 (.slice (some ⟨bA,0,spA⟩) (A).length (A).length) hAj;have hOa:Own h1 h19 ((ZBj c7 c8 bl gl++[mapI strK ba gat,slI h1 (.slice (some ⟨bx,ox,oax⟩) (ZAQ S).length (ZAQ S).length) 9 1 ((ZAQ S).map str) (ZAQ S).length,loI r12 .defd,ceI c15 [.map (some bt)] 117 false,mapI strK bt gt])++allX h1 (.slice (some ⟨bA,0,spA⟩) (A).length (A).length) (A)):=hO19
 have hOb:=ht1 h19 _ hOa;obtain⟨opB,hgB,hcB⟩:=ZDh (t:=1) (v:=a.2.2.1) hOb.up3 hAj (by decide) rfl;refine zy ?_;refine ZBF rfl rfl rfl rfl rfl Bod.h rfl rfl hfk2 ?_;refine zy ?_;refine zD (ZBN strK (k:=repW S k) (v:=i64 (j:Nat)) Und.h Zr.h rfl hma2 rfl hatj) ?_;refine zD (ZAE (k:=j) Und.h Tsz.h rfl rfl rfl hjA) ?_;refine ZBg rfl rfl Und.h Tsz.h Zr.h rfl rfl rfl rfl rfl fun h30 hE30 hW30 hg30 hn30=>?_;refine zy ?_;refine ZAo (k:=1) (l:=[str (k.drop 1)]) hw (hE19.trans hE30) rfl rfl rfl rfl rfl Und.h inferInstance rfl rfl (show Own h1 h30 (slI h1 a.2.2.1 9 1 (a.2.2.2.1.map str) a.2.2.2.1.length::_) from (hOb.ext hE30).up2) (ZAs Und.h (by intro k;simp) (ZAP hg30 rfl)) rfl rfl (by omega) (by omega) fun v31 h31 hW31 hO31 hE31=>?_
 have hO31':Own h1 h31 (nmI h1 (a.1,a.2.1,v31,a.2.2.2.1++[k.drop 1],a.2.2.2.2)::itI' h1 (a.1,a.2.1,v31,a.2.2.2.1++[k.drop 1],a.2.2.2.2)::topM h1 (.slice (some ⟨bA,0,spA⟩) (A).length (A).length) (A)::((ZBj c7 c8 bl gl++[mapI strK ba gat,slI h1 (.slice (some ⟨bx,ox,oax⟩) (ZAQ S).length (ZAQ S).length) 9 1 ((ZAQ S).map str) (ZAQ S).length,loI r12 .defd,ceI c15 [.map (some bt)] 117 false,mapI strK bt gt])++Rr)):=by
  refine Own.up2 ?_;unfold itI';simp only[List.map_append,List.map_cons,List.map_nil,List.length_append,List.length_singleton];exact hO31
 obtain⟨opC,hgC,-⟩:=ZDh (t:=1) (v:=a.2.2.1) hO31'.up3 hAj (by decide) rfl;obtain⟨a31,e31,-⟩:=ZAF.is (show ZAF h1 h31 v31 9 1 ((a.2.2.2.1++[k.drop 1]).map str) (a.2.2.2.1++[k.drop 1]).length from hO31'.p2);subst e31;have hly:0+j*3+1<((A).flatMap rowM).length:=by rw[ZJr];omega
 refine zy ?_;refine ZAf rfl Tsz.h rfl rfl hgC rfl rfl (ZCH hly) fun h32 hU32=>?_;have hset:((A).flatMap rowM).set (0+j*3+1) (.slice a31 (a.2.2.2.1++[k.drop 1]).length (a.2.2.2.1++[k.drop 1]).length)=(((A).set j (a.1,a.2.1,.slice a31 (a.2.2.2.1++[k.drop 1]).length (a.2.2.2.1++[k.drop 1]).length,a.2.2.2.1++[k.drop 1],a.2.2.2.2))).flatMap rowM:=by
  rw[Nat.zero_add];exact ZG8 (enc:=rowM) (k:=3) (fun _=>rfl) (t:=1) (by decide) hAj rfl
 have hO31u:Own h1 h31 (slI h1 (.slice (some ⟨bA,0,spA⟩) (A).length (A).length) 84 3 ((A).flatMap rowM) (A).length::nmI h1 (a.1,a.2.1,.slice a31 (a.2.2.2.1++[k.drop 1]).length (a.2.2.2.1++[k.drop 1]).length,a.2.2.2.1++[k.drop 1],a.2.2.2.2)::itI' h1 (a.1,a.2.1,.slice a31 (a.2.2.2.1++[k.drop 1]).length (a.2.2.2.1++[k.drop 1]).length,a.2.2.2.1++[k.drop 1],a.2.2.2.2)::((ZBj c7 c8 bl gl++[mapI strK ba gat,slI h1 (.slice (some ⟨bx,ox,oax⟩) (ZAQ S).length (ZAQ S).length) 9 1 ((ZAQ S).map str) (ZAQ S).length,loI r12 .defd,ceI c15 [.map (some bt)] 117 false,mapI strK bt gt])++Rr)):=hO31'.up3;obtain⟨hO32,hE32⟩:=Own.setRow hO31u hW31 hE31 hw hU32 (by rw[List.length_set])
 rw[hset] at hO32
 have hO33:=ht2 h32 _ (a.1,a.2.1,.slice a31 (a.2.2.2.1++[k.drop 1]).length (a.2.2.2.1++[k.drop 1]).length,a.2.2.2.1++[k.drop 1],a.2.2.2.2) (.slice (some ⟨bA,0,spA⟩) (A).length (A).length) (by
  have h1:=hO32.dn3;unfold topM;rw[List.length_set];exact h1)
 refine zy ?_;refine⟨(i+1,.slice (some ⟨bA,0,spA⟩) A.length A.length,A.set j (a.1,a.2.1,_,a.2.2.2.1++[k.drop 1],a.2.2.2.2)),(by show (ZAQ S).length-(i+1)<(ZAQ S).length-i;omega),rfl,hE32,hi',hO33,?_,rfl,rfl,rfl,rfl,rfl,rfl,trivial⟩;simp only[htk,List.map_set];rw[hAold,<-hsa];rfl
theorem ZRh {ad:Option Addr}{cap:Nat}{l:List WkR}{h:Heap}(hR:SrcK rowW 6 h ad l)(hn:ad=none->l=[]/\cap=0)(hf:∀x∈l,x.Fit)(hlen:Len l)(hL:WkLib h) :
  Sv Tryz.prog 18 [.slice ad l.length cap] h (RetP fun v h'=>ZRr l v h'/\Ext h h') :=
 (ZQW hR hn hf hlen hL).ret fun v h' hr=>by
  refine⟨?_,hr.2⟩
  rcases hr.1 with ⟨hc,rfl⟩|⟨hc,va,rfl,hW⟩
  ·exact .inl ⟨hc,rfl⟩
  ·exact .inr ⟨hc,va,rfl,hW h' fun _ _ _ q=>q⟩
abbrev xF50:List Nat:=[0,0,3,7,0,0,48,112,255]
abbrev xF51:List Nat:=[0,1,2,3,4,5,6,7,8]
def ZLR:Str:=[101,97,115,116]
def ZGy:Str:=[119,101,115,116]
def ZEB:Str:=[99,97,110,45,49]
def ZM6:Str:=[99,97,110,45,50]
def ZVE:Str:=[99,97,110,45,51]
def ZEW:Str:=[100,97,119,110]
def ZNA:Str:=[114,101,101,102]
def ZPc:Str:=[118,97,117,108,116]
def sLab:Str:=[108,97,98]
def ZBl:Str:=[97,117,114,111,114,97]
def ZVO:Str:=[68,101,114,32,77,111,114,103,101,110]
def ZMP:Str:=[84,104,101,32,68,97,119,110]
def catL:List WkR:=[⟨ZLR,1,10,1,ZEB,ZEW⟩,⟨ZLR,2,10,1,ZM6,ZNA⟩,⟨ZLR,3,12,5,ZEB,ZPc⟩,⟨ZLR,4,20,5,ZEB,sLab⟩,⟨ZGy,1,11,1,ZEB,ZBl⟩,⟨ZGy,2,11,3,ZEW,ZBl⟩,⟨ZGy,3,15,4,ZBl,ZVO⟩,⟨ZGy,4,16,4,ZEW,ZMP⟩]
theorem ZFc (x:WkR)(h:Heap):Sv Tryz.prog 23 [str x.archive,i64 x.number,i64 x.day,i64 x.kind,str x.a,str x.b] h (RetP fun v h'=>v=encW x/\Ext h h'):=by
 refine ZA5 fun hw=>?_;refine ZAG Tryz.func23 rfl (by rw[Tryz.ntmps23];rfl) ?_;show Wc Tryz.prog ⟨23,20,none⟩ _ _ _ _ _;refine zy ?_;refine ZA2 rfl rfl Zr.h fun h1 hE1 hW1 hg1 hn1=>?_;refine ZD7 ?_;refine ZED ?_;refine ZBs ?_;refine zE (ZDW rfl) ?_;refine zE (ZDW rfl) ?_;refine zE (ZDW rfl) ?_;refine zE (ZDW rfl) ?_;refine zE (ZDW rfl) ?_;refine zE (ZDW rfl) ?_;refine zE (ZC5 (v:=encW x) rfl (by kernel_rfl)) ?_;refine ZAf rfl Tsz.h rfl rfl hg1 rfl rfl rfl fun h2 hU=>?_;have hg2:=hU.at';refine zy ?_;exact ZAC (ZAD (vs:=[encW x]) (ZBT rfl (ZBp RowC.h (ZAP hg2 rfl)) rfl) ⟨rfl,hU.ext hE1 hw (Nat.le_refl _)⟩)
theorem ZIR {a a':Option Addr}{c c':Nat}{l:List Str}{h:Heap}(h1:ZAi str h a l)(h2:ZAi str h a' l)(hlen:Len l):Sv Tryz.prog 25 [.slice a l.length c,.slice a' l.length c'] h (RetP fun v h'=>v=.bool true/\h'=h):=by
 refine ZAG Tryz.func25 rfl (by rw[Tryz.ntmps25];rfl) ?_;show Wc Tryz.prog ⟨25,26,none⟩ _ _ _ _ _;refine zy ?_;refine zD (A_ff (fun q=>q rfl) (ZAh rfl rfl)) ?_;refine ZAN (fun (j:Nat) m ds h'=>ds=[]/\h=h'/\j<=l.length/\AllK m [(0,.slice a l.length c),(1,.slice a' l.length c'),(5,i64 (j:Nat))]) (fun j=>l.length-j) 0 ?_ ?_
 ·exact⟨rfl,rfl,Nat.zero_le _,rfl,rfl,rfl,trivial⟩
 rintro j m ds h' ⟨rfl,rfl,hj,hall⟩;refine Wc.le ?_ (Le.kn hall);clear hall;refine zy ?_;refine zC (ZAU rfl rfl) (fun hjl=>?_) (fun hjl=>?_);rotate_left
 ·refine zy ?_
  exact ZAC (ZAD rfl ⟨rfl,rfl⟩)
 have hj':j<l.length:=by omega
 obtain⟨b,o,oa,rfl,hc1⟩:=h1 j hj';obtain⟨b',o',oa',rfl,hc2⟩:=h2 j hj';generalize l[j]=x at *;refine zy ?_;refine ZAL hmix xF50 xF51 none [] (by kernel_rfl) (by kernel_rfl) ?_;refine z_m ?_;refine z_m ?_;refine ZAB rfl rfl rfl rfl rfl (fun _=>A_ix (k:=j) Und.h Tsz.h rfl rfl) ?_;refine z_l ?_;refine z_m ?_;refine z_m ?_;refine ZAB rfl rfl rfl rfl rfl (fun _=>A_ix (k:=j) Und.h Tsz.h rfl rfl) ?_;refine z_l ?_;refine ZAB rfl rfl rfl rfl rfl (fun _=>A_ff (fun q=>q rfl) (ZA6 rfl rfl)) ?_;refine ZAO (ZAA rfl) nb' ?_;refine zy ?_;exact⟨j+1,(by show l.length-(j+1)<l.length-j;omega),rfl,rfl,hj',rfl,rfl,rfl,trivial⟩
theorem ZPb {a a':Option Addr}{c c':Nat}{l:List Key}{h:Heap}(h1:ZBO 2 (fun _ row x=>row=rowK x) h a l)(h2:ZBO 2 (fun _ row x=>row=rowK x) h a' l)(hlen:Len l):Sv Tryz.prog 26 [.slice a l.length c,.slice a' l.length c'] h (RetP fun v h'=>v=.bool true/\h'=h):=by
 refine ZAG Tryz.func26 rfl (by rw[Tryz.ntmps26];rfl) ?_;show Wc Tryz.prog ⟨26,26,none⟩ _ _ _ _ _;refine zy ?_;refine zD (A_ff (fun q=>q rfl) (ZAh rfl rfl)) ?_;refine ZAN (fun (j:Nat) m ds h'=>ds=[]/\h=h'/\j<=l.length/\AllK m [(0,.slice a l.length c),(1,.slice a' l.length c'),(5,i64 (j:Nat))]) (fun j=>l.length-j) 0 ?_ ?_
 ·exact⟨rfl,rfl,Nat.zero_le _,rfl,rfl,rfl,trivial⟩
 rintro j m ds h' ⟨rfl,rfl,hj,hall⟩;refine Wc.le ?_ (Le.kn hall);clear hall;refine zy ?_;refine zC (ZAU rfl rfl) (fun hjl=>?_) (fun hjl=>?_);rotate_left
 ·refine zy ?_
  exact ZAC (ZAD rfl ⟨rfl,rfl⟩)
 have hj':j<l.length:=by omega
 obtain⟨b,o,oa,rfl,row,hr,hx⟩:=h1 j hj';obtain⟨b',o',oa',rfl,row',hr',hx'⟩:=h2 j hj';have e1:row=rowK l[j]:=hx;have e2:row'=rowK l[j]:=hx';clear hx hx';generalize l[j]=x at *;subst e1;subst e2;refine zy ?_;refine ZAL hmix xF50 xF51 none [] (by kernel_rfl) (by kernel_rfl) ?_;refine z_m ?_;refine z_m ?_;refine ZAB rfl rfl rfl rfl rfl (fun _=>A_ix (k:=j) Und.h Tsz.h rfl rfl) ?_;refine z_r ?_;refine z_m ?_;refine z_m ?_;refine ZAB rfl rfl rfl rfl rfl (fun _=>A_ix (k:=j) Und.h Tsz.h rfl rfl) ?_;refine z_r ?_;refine ZAB rfl rfl rfl rfl rfl (fun _=>A_ff (show ¬¬x=x from fun q=>q rfl) (ZQP keyK rfl rfl keyG rfl rfl)) ?_
 refine ZAO (ZAA rfl) nb' ?_;refine zy ?_;exact⟨j+1,(by show l.length-(j+1)<l.length-j;omega),rfl,rfl,hj',rfl,rfl,rfl,trivial⟩
def ZJW:WkR:=⟨ZGy,4,16,4,ZEW,[68,97,119,110]⟩
theorem ZUA:chkS catL=(0,0):=by kernel_rfl
theorem ZSu:chkS (catL++[ZJW])=(0,0):=by kernel_rfl
theorem ZRa:ZCB (mrgU ltW (catL++[ZJW]))=[(ZGy,4)]:=by kernel_rfl
theorem ZTv:ZAk (mrgU ltW catL)=catL:=by kernel_rfl
theorem ZPv:ZRK catL=[([ZBl,ZEW],[ZEB],ZMP),([ZNA],[ZM6],[])]:=by kernel_rfl
theorem ZCO {h:Heap}:Sv Tryz.prog 19 [] h (RetP fun v h'=>ZAF h h' v 45 6 (catL.flatMap rowW) 8/\Ext h h'):=by
 refine ZA5 fun hw=>?_;refine ZAG Tryz.func19 rfl (by rw[Tryz.ntmps19];rfl) ?_;show Wc Tryz.prog ⟨19,10,none⟩ _ _ _ _ _;refine zy ?_;refine zW (ZFc ⟨ZLR,1,10,1,ZEB,ZEW⟩ _) fun h1 hE1=>?_;refine zW (ZFc ⟨ZLR,2,10,1,ZM6,ZNA⟩ _) fun h2 hE2=>?_;refine zW (ZFc ⟨ZLR,3,12,5,ZEB,ZPc⟩ _) fun h3 hE3=>?_;refine zW (ZFc ⟨ZLR,4,20,5,ZEB,sLab⟩ _) fun h4 hE4=>?_;refine zW (ZFc ⟨ZGy,1,11,1,ZEB,ZBl⟩ _) fun h5 hE5=>?_;refine zW (ZFc ⟨ZGy,2,11,3,ZEW,ZBl⟩ _) fun h6 hE6=>?_;refine zW (ZFc ⟨ZGy,3,15,4,ZBl,ZVO⟩ _) fun h7 hE7=>?_;refine zW (ZFc ⟨ZGy,4,16,4,ZEW,ZMP⟩ _) fun h8 hE8=>?_;have hE:=((((((hE1.trans hE2).trans hE3).trans hE4).trans hE5).trans hE6).trans hE7).trans hE8
 clear hE1 hE2 hE3 hE4 hE5 hE6 hE7 hE8;refine ZBg (cs:=catL.flatMap rowW) rfl rfl Und.h Tsz.h Zr.h rfl rfl rfl rfl (by kernel_rfl) fun h9 hE9 hW9 hg9 hn9=>?_;refine zy ?_;exact ZAC (ZAD rfl ⟨ZAF.lit hg9 rfl hE.2.1,hE.trans hE9⟩)
set_option maxHeartbeats 1000000 in
theorem ZUa (x:WkR){h:Heap}:Sv Tryz.prog 22 [encW x] h (RetP fun v h'=>ZAF h h' v 45 6 ((catL++[x]).flatMap rowW) 9/\Ext h h'):=by
 refine ZA5 fun hw=>?_;refine ZAG Tryz.func22 rfl (by rw[Tryz.ntmps22];rfl) ?_;show Wc Tryz.prog ⟨22,7,none⟩ _ _ _ _ _;refine zy ?_;refine ZAn rfl rfl rfl fun h1 hE1 hW1 hg1 hn1=>?_;generalize h.nx=b1 at hg1 ⊢;have hg1a:=(Ext.rsv h1).get hg1;refine zy ?_;refine ZAL hmix [0,0,2,7,15] [1,2] (some 0) [([],(some 3)),([],(some 4)),([],none)] (by kernel_rfl) (by kernel_rfl) ?_;refine z_r ?_;refine ZDS (nk:=.sl _ _) rfl rfl rfl rfl rfl (fun _ _ hs=>N_bs hs Und.h Tsz.h Zr.h rfl rfl rfl rfl rfl) ?_;refine ZAI (h1:=(rsv h1)) [] (by kernel_rfl) rfl (ZAA rfl) rfl rfl rfl (ZAu (ZBJ rfl rfl rfl rfl rfl Bod.h ZCO (fun v24 h4 hv hw4=>?_)))
 obtain⟨hF24,hE4⟩:=hv;have hE14:=(Ext.rsv h1).trans hE4;have hnx4:h1.nx<h4.nx:=hE4.2.1;have hU4:=Upd.mk' h4 h1.nx (.cells (rowW x) 45 false);have hE4':=hU4.ext hE14 hW1 (Nat.le_refl _);have hw4':=hw4.upd hU4 hnx4;have hF24':=(hF24.updL hU4 (Nat.lt_succ_self _)).base (h0:=h1) (Ext.rsv h1).2.1;have hg4:=hU4.at';have hg14:=hE4'.get hg1;have hg14o:=hE14.get hg1;refine ZAI (h1:=(h4.set h1.nx (.cells (rowW x) 45 false))) [0,1,2] (by kernel_rfl) rfl (by refine ZTk (i:=2) (nk:=.sl _ _) rfl rfl rfl rfl rfl (fun _ _ hs=>N_bs hs Und.h Tsz.h Zr.h rfl rfl rfl rfl rfl) rfl ?_;refine t_r 1 ?_;exact ZAA rfl) rfl rfl rfl (ZAu (ZJB (by':=72) (k:=1) (n:=8) (l:=rowW x) rfl hW1 hw4' hE4' rfl rfl rfl rfl Und.h inferInstance rfl rfl hF24' ((ZAF.lit (h0:=h1) (n:=1) (sz:=6) hg4 rfl (Nat.le_refl _)).src (dd:=.slice 45) Und.h (by intro k;simp)) rfl rfl (by omega) (by omega) (fun v27 h5 hF27 hE5 hK5 hx5 hv5 hw5=>?_)))
 refine ZAI (h1:=h5) [0,1,2,3] (by kernel_rfl) rfl (ZAA rfl) rfl rfl rfl (ZCU rfl rfl (ZAj rfl) ?_);refine ZAO (h1:=h5) (ZAA rfl) rfl ?_;refine zy ?_;refine ZAC (ZAD rfl ⟨?_,hE1.trans hE5⟩);rw[List.flatMap_append,List.flatMap_singleton];exact hF27.base hE1.2.1
abbrev xF82:List Nat:=[0,1,2,3,4,5,6,7,8,9]
set_option maxHeartbeats 4000000 in
theorem ZOY {v v':Value}{W:List WkO}{h:Heap}(h1:ZDI h v W)(h2:ZDI h v' W)(hlen:Len W)(hl:∀w∈W,Len w.1/\Len w.2.1):Sv Tryz.prog 24 [v,v'] h (RetP fun v h'=>v=.bool true/\h'=h):=by
 obtain⟨a,c,rfl,h1⟩:=h1;obtain⟨a',c',rfl,h2⟩:=h2;refine ZAG Tryz.func24 rfl (by rw[Tryz.ntmps24];rfl) ?_;show Wc Tryz.prog ⟨24,56,none⟩ _ _ _ _ _;refine zy ?_;refine zD (A_ff (fun q=>q rfl) (ZAh rfl rfl)) ?_;refine ZAN (fun (j:Nat) m ds h'=>ds=[]/\h=h'/\j<=W.length/\AllK m [(0,.slice a W.length c),(1,.slice a' W.length c'),(5,i64 (j:Nat))]) (fun j=>W.length-j) 0 ?_ ?_
 ·exact⟨rfl,rfl,Nat.zero_le _,rfl,rfl,rfl,trivial⟩
 rintro j m ds h' ⟨rfl,rfl,hj,hall⟩;refine Wc.le ?_ (Le.kn hall);clear hall;refine zy ?_;refine zC (ZAU rfl rfl) (fun hjl=>?_) (fun hjl=>?_);rotate_left
 ·refine zy ?_
  exact ZAC (ZAD rfl ⟨rfl,rfl⟩)
 have hj':j<W.length:=by omega
 obtain⟨b,o,oa,rfl,row,hr,an,cn,ai,ci,rfl,l1,l2⟩:=h1 j hj';obtain⟨b',o',oa',rfl,row',hr',an',cn',ai',ci',rfl,l1',l2'⟩:=h2 j hj';obtain⟨g1,g2⟩:=hl _ (List.getElem_mem hj');have q1:=ZIR (c:=cn) (c':=cn') l1 l1' g1;have q2:=ZIR (c:=ci) (c':=ci') l2 l2' g2;generalize W[j]=w at *;have k0:ZAS h b (o+j*3+0)=some (.slice an w.1.length cn):=ZAK (k:=0) hr rfl;have k1:ZAS h b (o+j*3+1)=some (.slice ai w.2.1.length ci):=ZAK (k:=1) hr rfl;have k2:ZAS h b (o+j*3+2)=some (str w.2.2):=ZAK (k:=2) hr rfl;have k0':ZAS h b' (o'+j*3+0)=some (.slice an' w.1.length cn'):=ZAK (k:=0) hr' rfl;have k1':ZAS h b' (o'+j*3+1)=some (.slice ai' w.2.1.length ci'):=ZAK (k:=1) hr' rfl
 have k2':ZAS h b' (o'+j*3+2)=some (str w.2.2):=ZAK (k:=2) hr' rfl;refine zy ?_;refine ZAL hmix [0,0,3,7,15,0,0,96,224,480,1023,2047,4095,8191,8191,32767,65535,131071,8191,8191,794623,1843199,3940351,8388607,16777215,33554431,67108863,134217727,134217727,536870911,1073741823,2147483647,134217727,134217727,13019119615,30198988799,64558727167,137438953471,274877906943] xF82 (some 10) [([11,12,13,14,15,16,17,18,19,20,21,22],(some 23)),([24,25,26,27,28,29,30,31,32,33,34,35,36,37,38],none)] (by kernel_rfl) (by kernel_rfl) ?_;refine z_m ?_;refine z_m ?_;refine ZAB rfl rfl rfl rfl rfl (fun _=>A_ix (k:=j) Und.h Tsz.h rfl rfl) ?_;refine z_f ?_;refine z_l ?_;refine z_m ?_;refine z_m ?_;refine ZAB rfl rfl rfl rfl rfl (fun _=>A_ix (k:=j) Und.h Tsz.h rfl rfl) ?_;refine z_f ?_;refine z_l ?_
 refine ZAI xF82 (by kernel_rfl) rfl (ZAA rfl) rfl nb rfl (ZAX rfl rfl rfl rfl rfl Bod.h q1 ?_);refine z_n ?_;refine z_m ?_;refine g_m ?_;refine g_m ?_
 first|refine ZAT rfl rfl rfl rfl ?_|refine ZAB rfl rfl rfl rfl rfl (fun _=>A_ix (k:=j) Und.h Tsz.h rfl rfl) ?_
 refine g_f ?_;refine g_l ?_;refine g_m ?_;refine g_m ?_
 first|refine ZAT rfl rfl rfl rfl ?_|refine ZAB rfl rfl rfl rfl rfl (fun _=>A_ix (k:=j) Und.h Tsz.h rfl rfl) ?_
 refine g_f ?_;refine g_l ?_;refine ZAI [0,1,2,3,4,5,6,7,8,9,10,11,12,13,14,15,16,17,18,19,20,21,22] (by kernel_rfl) rfl (ZAA rfl) rfl nb rfl (ZAX rfl rfl rfl rfl rfl Bod.h q2 ?_);refine g_n ?_;refine z_p ?_;refine z_m ?_;refine g_m ?_;refine g_m ?_
 first|refine ZAT rfl rfl rfl rfl ?_|refine ZAB rfl rfl rfl rfl rfl (fun _=>A_ix (k:=j) Und.h Tsz.h rfl rfl) ?_
 refine g_f ?_;refine g_l ?_;refine g_m ?_;refine g_m ?_
 first|refine ZAT rfl rfl rfl rfl ?_|refine ZAB rfl rfl rfl rfl rfl (fun _=>A_ix (k:=j) Und.h Tsz.h rfl rfl) ?_
 refine g_f ?_;refine g_l ?_
 first|refine ZAT rfl rfl rfl rfl ?_|refine ZAB rfl rfl rfl rfl rfl (fun _=>A_ff (fun q=>q rfl) (ZA6 rfl rfl)) ?_
 refine z_p ?_;refine ZAO (ZAA rfl) nb' ?_;refine zy ?_;exact⟨j+1,(by show W.length-(j+1)<W.length-j;omega),rfl,rfl,hj',rfl,rfl,rfl,trivial⟩
theorem ZFo {α:Type}{enc:α->Value}{h:Heap}{b:Nat}{sp:Option Nat}{el:TypeId}{op:Bool}{l:List α}(hg:h.get b=some (.cells (l.map enc) el op)):ZAi enc h (some ⟨b,0,sp⟩) l:=fun j hj=>⟨b,0,sp,rfl,by
 rw[Nat.zero_add];exact ZAb hg (by rw[ZAv,Nat.mul_one,List.getElem?_map,List.getElem?_eq_getElem hj];rfl)⟩
theorem ZTZ:∀x∈catL++[ZJW],x.Fit:=by
 intro x hx;simp only[catL,ZJW,List.cons_append,List.nil_append,List.mem_cons,List.not_mem_nil,or_false] at hx
 rcases hx with rfl|rfl|rfl|rfl|rfl|rfl|rfl|rfl|rfl <;> exact⟨by decide,by decide,by decide⟩
theorem ZJT:∀x∈catL,x.Fit:=fun x hx=>ZTZ x (List.mem_append_left _ hx)
theorem ZDI.ext {h h':Heap}{v:Value}{W:List WkO}(hW:ZDI h v W)(hE:Ext h h'):ZDI h' v W:=by
 obtain⟨a,c,e,hw⟩:=hW;exact⟨a,c,e,ZBO.ext (R:=ZOn) (fun hr he=>ZOn.ext he hr) hw hE⟩
def catW:List WkO:=[([ZBl,ZEW],[ZEB],ZMP),([ZNA],[ZM6],[])]
theorem ZSz {h:Heap}{b b1 b2 b3 b4:Nat}{op o1 o2 o3 o4:Bool}(hg:h.get b=some (.cells [.slice (some ⟨b1,0,none⟩) 2 2,.slice (some ⟨b2,0,none⟩) 1 1,str ZMP,.slice (some ⟨b3,0,none⟩) 1 1,.slice (some ⟨b4,0,none⟩) 1 1,str []] 84 op))(h1:h.get b1=some (.cells [str ZBl,str ZEW] 9 o1))(h2:h.get b2=some (.cells [str ZEB] 9 o2))(h3:h.get b3=some (.cells [str ZNA] 9 o3))(h4:h.get b4=some (.cells [str ZM6] 9 o4)):ZDI h (.slice (some ⟨b,0,none⟩) 2 2) catW:=by
 refine⟨_,2,rfl,fun i hi=>?_⟩;have hi2:i<2:=hi
 rcases i with _|_|i
 ·exact⟨b,0,none,rfl,_,ZAP hg rfl,_,_,_,_,rfl,ZFo (l:=[ZBl,ZEW]) h1,ZFo (l:=[ZEB]) h2⟩
 ·exact⟨b,0,none,rfl,_,ZAP hg rfl,_,_,_,_,rfl,ZFo (l:=[ZNA]) h3,ZFo (l:=[ZM6]) h4⟩
 ·omega
set_option maxHeartbeats 8000000 in
theorem ZGc {h:Heap}(hL:WkLib h):Sv Tryz.prog 6 [] h (RetP fun v h'=>v=.bool true/\Ext h h'):=by
 refine ZA5 fun hw=>?_;refine ZAG Tryz.func6 rfl (by rw[Tryz.ntmps6];rfl) ?_;show Wc Tryz.prog ⟨6,83,none⟩ _ _ _ _ _;refine zy ?_;refine ZAa rfl rfl rfl rfl rfl Bod.h rfl rfl ZCO ?_;rintro _ h1 ⟨hF1,hE1⟩;obtain⟨a1,rfl,hS1,hn1⟩:=ZAF.rowsAt (enc:=rowW) (k:=6) (fun _=>rfl) hF1 rfl;have hn1':a1=none->catL=[]/\catL.length=0:=fun e=>⟨hn1 e,by rw[hn1 e];rfl⟩;refine zy ?_;refine zR (ZRh hS1 hn1' ZJT (by decide) (hL.ext hE1)) ?_;rintro _ h2 ⟨⟨hc,-⟩|⟨-,va,rfl,hWa⟩,hE2⟩
 ·rw[ZUA] at hc;exact absurd rfl hc
 rw[ZTv,ZPv] at hWa;replace hWa:ZDI h2 va catW:=hWa;have hE12:=hE1.trans hE2;clear hF1 hS1 hn1 hn1' hE1 hE2;refine zy ?_;refine ZAa rfl rfl rfl rfl rfl Bod.h rfl rfl ZCO ?_;rintro _ h3 ⟨hF3,hE3⟩;obtain⟨a3,rfl,hS3,hn3⟩:=ZAF.rowsAt (enc:=rowW) (k:=6) (fun _=>rfl) hF3 rfl;have hn3':a3=none->catL=[]/\catL.length=0:=fun e=>⟨hn3 e,by rw[hn3 e];rfl⟩;refine zy ?_;refine zR (ZTz (a:=ZEW) (b:=ZBl) hS3 hn3' ZJT (by decide) (hL.ext (hE12.trans hE3)) (by decide) (by decide)) ?_;have hsm:ZQI catL ZEW ZBl=([ZEW,35::ZEB,ZBl],0):=by kernel_rfl
 rw[hsm];rintro _ h4 ⟨v4,rfl,hF4,hE4⟩;have hE14:=hE12.trans (hE3.trans hE4);replace hWa:=hWa.ext (hE3.trans hE4);clear hF3 hS3 hn3 hn3' hE3 hE4 hE12;refine zy ?_;refine ZAa rfl rfl rfl rfl rfl Bod.h rfl rfl ZCO ?_;rintro _ h5 ⟨hF5,hE5⟩;obtain⟨a5,rfl,hS5,hn5⟩:=ZAF.rowsAt (enc:=rowW) (k:=6) (fun _=>rfl) hF5 rfl;have hn5':a5=none->catL=[]/\catL.length=0:=fun e=>⟨hn5 e,by rw[hn5 e];rfl⟩;refine zy ?_;have hwh:ZH8 catL ZEB 12=(ZPc,0):=by kernel_rfl
 refine zR (ZJ9 (k:=ZEB) (t:=12) hS5 hn5' ZJT (by decide) (hL.ext (hE14.trans hE5))) ?_;rw[hwh];rintro _ h6 ⟨rfl,hE6⟩;have hE16:=hE14.trans (hE5.trans hE6);replace hWa:=hWa.ext (hE5.trans hE6);replace hF4:=hF4.ext (hE5.trans hE6);clear hF5 hS5 hn5 hn5' hE5 hE6 hE14;refine zy ?_;refine zW (ZFc ZJW _) fun h7 hE7=>?_;refine zR (ZUa ZJW) ?_;rintro _ h8 ⟨hF8,hE8⟩;obtain⟨a8,rfl,hS8,hn8⟩:=ZAF.rowsAt (enc:=rowW) (k:=6) (fun _=>rfl) hF8 rfl;have hn8':a8=none->catL++[ZJW]=[]/\(catL++[ZJW]).length=0:=fun e=>⟨hn8 e,by rw[hn8 e];rfl⟩;refine zy ?_;refine zR (ZMJ hS8 hn8' ZTZ (by decide) (hL.ext (hE16.trans (hE7.trans hE8)))) ?_
 rintro _ h9 ⟨⟨hc,-⟩|⟨-,aS,af,rfl,-,hSf,-,-⟩,hE9⟩
 ·rw[ZSu] at hc;exact absurd rfl hc
 rw[ZRa] at hSf ⊢;have hE19:=hE16.trans (hE7.trans (hE8.trans hE9));replace hWa:=hWa.ext (hE7.trans (hE8.trans hE9));replace hF4:=hF4.ext (hE7.trans (hE8.trans hE9));clear hF8 hS8 hn8 hn8' hE7 hE8 hE9 hE16;generalize (ZAk (mrgU ltW (catL++[ZJW]))).length=nS;refine zy ?_;refine ZAa rfl rfl rfl rfl rfl Bod.h rfl rfl ZCO ?_;rintro _ h10 ⟨hF5,hE5⟩;obtain⟨a5,rfl,hS5,hn5⟩:=ZAF.rowsAt (enc:=rowW) (k:=6) (fun _=>rfl) hF5 rfl;have hn5':a5=none->catL=[]/\catL.length=0:=fun e=>⟨hn5 e,by rw[hn5 e];rfl⟩;refine zy ?_;have hwh2:ZH8 catL ZVE 12=([],4):=by kernel_rfl
 refine zR (ZJ9 (k:=ZVE) (t:=12) hS5 hn5' ZJT (by decide) (hL.ext (hE19.trans hE5))) ?_;rw[hwh2];rintro _ h11 ⟨rfl,hE6⟩;have hE11:=hE19.trans (hE5.trans hE6);replace hWa:=hWa.ext (hE5.trans hE6);replace hF4:=hF4.ext (hE5.trans hE6);replace hSf:=hSf.ext (hE5.trans hE6);clear hF5 hS5 hn5 hn5' hE5 hE6 hE19;refine zy ?_;refine zD (A_tt rfl (ZAg rfl rfl)) ?_;refine zD (A_tt rfl (ZAg rfl rfl)) ?_;refine zD (A_tt rfl (ZAg rfl rfl)) ?_;refine zD (A_tt rfl (ZAg rfl rfl)) ?_;refine zD (A_tt rfl (ZAg rfl rfl)) ?_;refine ZBg (cs:=[str ZBl,str ZEW]) rfl rfl Und.h Tsz.h Zr.h rfl rfl rfl rfl rfl fun h12 hE12 hW12 hg12 hn12=>?_
 refine zy ?_;refine ZBg (cs:=[str ZEB]) rfl rfl Und.h Tsz.h Zr.h rfl rfl rfl rfl rfl fun h13 hE13 hW13 hg13 hn13=>?_;refine zE (ZC5 (v:=.agg ⟨[.slice (some ⟨h11.nx,0,none⟩) 2 2,.slice (some ⟨h12.nx,0,none⟩) 1 1,str ZMP]⟩) rfl (by kernel_rfl)) ?_;refine ZBg (cs:=[str ZNA]) rfl rfl Und.h Tsz.h Zr.h rfl rfl rfl rfl rfl fun h14 hE14 hW14 hg14 hn14=>?_;refine ZBg (cs:=[str ZM6]) rfl rfl Und.h Tsz.h Zr.h rfl rfl rfl rfl rfl fun h15 hE15 hW15 hg15 hn15=>?_;refine zE (ZC5 (v:=.agg ⟨[.slice (some ⟨h13.nx,0,none⟩) 1 1,.slice (some ⟨h14.nx,0,none⟩) 1 1,str []]⟩) rfl (by kernel_rfl)) ?_;refine ZBg (cs:=[.slice (some ⟨h11.nx,0,none⟩) 2 2,.slice (some ⟨h12.nx,0,none⟩) 1 1,str ZMP,.slice (some ⟨h13.nx,0,none⟩) 1 1,.slice (some ⟨h14.nx,0,none⟩) 1 1,str []]) rfl rfl Und.h Tsz.h Zr.h rfl rfl rfl rfl (by kernel_rfl) fun h16 hE16 hW16 hg16 hn16=>?_
 have hWb:=ZSz hg16 (((hE13.trans hE14).trans (hE15.trans hE16)).get hg12) ((hE14.trans (hE15.trans hE16)).get hg13) ((hE15.trans hE16).get hg14) (hE16.get hg15);have hEx:=(((hE12.trans hE13).trans hE14).trans hE15).trans hE16;replace hE11:=hE11.trans hEx;replace hWa:=hWa.ext hEx;replace hF4:=hF4.ext hEx;replace hSf:=hSf.ext hEx
 refine ZBF rfl rfl rfl rfl rfl Bod.h rfl rfl (ZOY hWa hWb (by decide) (fun w hw=>by
  simp only[catW,List.mem_cons,List.not_mem_nil,or_false] at hw
  rcases hw with rfl|rfl <;> exact⟨by decide,by decide⟩)) ?_
 clear hg12 hg13 hg14 hg15 hg16 hWb hEx hE12 hE13 hE14 hE15 hE16 hWa;obtain⟨a4,rfl,-,hL4⟩:=ZAF.list hF4;refine zy ?_;refine ZBg (cs:=[str ZEW,str (35::ZEB),str ZBl]) rfl rfl Und.h Tsz.h Zr.h rfl rfl rfl rfl rfl fun h17 hE17 hW17 hg17 hn17=>?_;refine zV (ZIR (l:=[ZEW,35::ZEB,ZBl]) (hL4.ext hE17) (ZFo hg17) (by decide)) ?_;refine zD (A_tt rfl (ZBB rfl rfl)) ?_;refine ZBg (cs:=rowK (ZGy,4)) rfl rfl Und.h Tsz.h Zr.h rfl rfl rfl rfl rfl fun h18 hE18 hW18 hg18 hn18=>?_
 refine ZBF rfl rfl rfl rfl rfl Bod.h rfl rfl (ZPb (l:=[(ZGy,4)]) (hSf.ext (hE17.trans hE18)).1 (fun i hi=>by
  have:i=0:=by simpa using hi
  subst this;exact⟨_,0,none,rfl,_,ZAP hg18 rfl,rfl⟩) (by decide)) ?_
 refine zy ?_;exact ZAC (ZAD rfl ⟨rfl,hE11.trans (hE17.trans hE18)⟩)
end Go.Dw
