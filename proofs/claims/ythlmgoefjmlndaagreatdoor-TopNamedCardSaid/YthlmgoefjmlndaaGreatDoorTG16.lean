/- F1: contracts: strings.HasPrefix, CutPrefix; Same. -/
import Derived.Test.YthlmgoefjmlndaaGreatDoorTG2
import Derived.Test.YthlmgoefjmlndaaGreatDoorTG15
set_option linter.unusedVariables false
set_option linter.unusedSimpArgs false
namespace Go.Dw
open Go Go.Dx Go.Proofs
set_option maxRecDepth 100000
theorem ZKn {l p:Str}{h:Heap}(hl:Len l)(hp:Len p):Sv Tryz.prog 117 [str l,str p] h (RetP fun v h'=>v=.bool (decide (l.take p.length=p))/\h'=h):=by
 refine ZAF Tryz.func117 rfl (by rw[Tryz.ntmps117];rfl) ?_;show Wc Tryz.prog ⟨117,18,none⟩ _ _ _ _ _;refine zy ?_
 by_cases hle:p.length<=l.length
 rotate_left
 ·refine zD (A_ff (by omega) (ZDh rfl rfl)) ?_
  have:¬l.take p.length=p:=fun e=>by
   have:=congrArg List.length e;rw[List.length_take] at this;omega
  exact ZAB (ZAC rfl ⟨by rw[decide_eq_false this];rfl,rfl⟩)
 refine zD (A_tt (by omega) (ZDh rfl rfl)) ?_;refine zD (ZFj (k:=p.length) Und.h rfl rfl rfl hle) ?_;refine zD (ZAU rfl rfl) ?_;exact ZAB (ZAC rfl ⟨rfl,rfl⟩)
theorem ZKN {l p:Str}{h:Heap}(hl:Len l)(hp:Len p):Sv Tryz.prog 69 [str l,str p] h (RetP fun v h'=>v=.bool (decide (l.take p.length=p))/\h'=h):=by
 refine ZAF Tryz.func69 rfl (by rw[Tryz.ntmps69];rfl) ?_;show Wc Tryz.prog ⟨69,8,none⟩ _ _ _ _ _;refine zy ?_;refine zV (ZKn hl hp) ?_;exact ZAB (ZAC rfl ⟨rfl,rfl⟩)
def cutP (l p:Str):Str×Bool:=if l.take p.length=p then (l.drop p.length,true) else (l,false)
theorem ZPP {l p:Str}{h:Heap}(hl:Len l)(hp:Len p):Sv Tryz.prog 114 [str l,str p] h (RetP fun v h'=>v=.tuple ⟨[str (cutP l p).1,.bool (cutP l p).2]⟩/\h'=h):=by
 unfold cutP;refine ZAF Tryz.func114 rfl (by rw[Tryz.ntmps114];rfl) ?_;show Wc Tryz.prog ⟨114,15,none⟩ _ _ _ _ _;refine zy ?_;refine zU (ZKn hl hp) ?_
 by_cases hq:l.take p.length=p
 ·have hle:p.length<=l.length:=by
   have:=congrArg List.length hq;rw[List.length_take] at this;omega
  rw[decide_eq_true hq,if_pos hq];refine zy ?_;refine zD (ZF8 (k:=p.length) Und.h rfl rfl rfl hle) ?_;exact ZAB (ZAC rfl ⟨rfl,rfl⟩)
 ·rw[decide_eq_false hq,if_neg hq]
  refine zy ?_;exact ZAB (ZAC rfl ⟨rfl,rfl⟩)
theorem ZGu {l p:Str}{h:Heap}(hl:Len l)(hp:Len p):Sv Tryz.prog 65 [str l,str p] h (RetP fun v h'=>v=.tuple ⟨[str (cutP l p).1,.bool (cutP l p).2]⟩/\h'=h):=by
 refine ZAF Tryz.func65 rfl (by rw[Tryz.ntmps65];rfl) ?_;show Wc Tryz.prog ⟨65,11,none⟩ _ _ _ _ _;refine zy ?_;refine zV (ZPP hl hp) ?_;exact ZAB (ZAC rfl ⟨rfl,rfl⟩)
theorem ZQ3 {k:Str}(h:ZBA k=true):k≠[]:=by
 rintro rfl;unfold ZBA at h;simp at h
theorem ZCs {x:WkR}(h:ZA8 x=0):ZBA x.archive=true/\ZBA x.a=true/\(x.kind≠4->x.kind≠6->ZBA x.b=true)/\(1<=x.kind/\x.kind<=6)/\((x.kind=2\/x.kind=3)->x.a≠x.b):=by
 unfold ZA8 at h
 split at h
 ·exact absurd h (by decide)
 rename_i h1
 split at h
 ·exact absurd h (by decide)
 split at h
 ·exact absurd h (by decide)
 rename_i h3
 split at h
 ·exact absurd h (by decide)
 rename_i h4
 split at h
 ·exact absurd h (by decide)
 rename_i h5;simp only[Bool.not_eq_false,Bool.and_eq_true] at h1 h4;refine⟨h1,h4.1,fun k4 k6=>?_,by omega,fun hk e=>h5 ⟨hk,e⟩⟩;have:=h4.2;unfold ZE4 at this
 rwa [if_neg k4,if_neg k6] at this
theorem ZHc {s:List WkR}(hg:∀x∈s,ZA8 x=0){k:Str}(hk:k∈nodW s):ZBA k=true\/∃x∈s,x.kind=1/\k=35::x.a:=by
 have hS:∀{ks:List Int} {x:WkR},(∀z∈ks,z=2\/z=3)->x∈ofK ks s->ZBA x.a=true/\ZBA x.b=true:=fun {ks x} hz hx=>by
  obtain⟨h1,h2⟩:=ZES.1 hx;have:=ZCs (hg x h1)
  rcases hz _ h2 with q|q
  ·exact⟨this.2.1,this.2.2.1 (by omega) (by omega)⟩
  ·exact⟨this.2.1,this.2.2.1 (by omega) (by omega)⟩
 unfold nodW at hk
 rcases List.mem_append.1 hk with hk|hk
 ·rcases List.mem_append.1 hk with hk|hk
  ·obtain⟨e,he,hke⟩:=ZFi.1 hk
   unfold edgW at he
   rcases List.mem_append.1 he with he|he
   ·obtain⟨x,hx,rfl⟩:=List.mem_map.1 he
    obtain⟨h1,h2⟩:=ZES.1 hx;have h2':x.kind=1:=by simpa using h2
    rcases hke with rfl|rfl
    ·exact .inr ⟨x,h1,h2',rfl⟩
    ·exact .inl ((ZCs (hg x h1)).2.2.1 (by omega) (by omega))
   ·obtain⟨x,hx,rfl⟩:=List.mem_map.1 he
    obtain⟨q1,q2⟩:=hS (ks:=[2]) (by simp) hx
    rcases hke with rfl|rfl
    ·exact .inl q1
    ·exact .inl q2
  ·obtain⟨e,he,hke⟩:=ZFi.1 hk
   obtain⟨x,hx,rfl⟩:=List.mem_map.1 he;obtain⟨q1,q2⟩:=hS (ks:=[3]) (by simp) hx
   rcases hke with rfl|rfl
   ·exact .inl q1
   ·exact .inl q2
 ·obtain⟨x,hx,rfl⟩:=List.mem_map.1 hk
  exact .inl (ZCs (hg x (ZES.1 hx).1)).2.1
theorem ZPT {s:List WkR}(hg:∀x∈s,ZA8 x=0):∀k∈nodW s,k≠[]:=fun k hk=>by
 rcases ZHc hg hk with h|⟨x,-,-,rfl⟩
 ·exact ZQ3 h
 ·simp
theorem ZNd (E:List (Str×Str)):(endE E).length=2*E.length:=by
 induction E with
 | nil=>rfl
 | cons e E ih =>
  have:endE (e::E)=[e.1,e.2]++endE E:=rfl;rw[this,List.length_append,ih,List.length_cons];simp;omega
theorem ZL9 (s:List WkR):(nodW s).length<=7*s.length:=by
 have h1:=ZHE s;have h3:(ofK [3] s).length<=s.length:=List.length_filter_le _ _;have h4:(ofK [4] s).length<=s.length:=List.length_filter_le _ _;unfold nodW;rw[List.length_append,List.length_append,ZNd,ZNd,List.length_map,List.length_map];omega
def ZEB (s:List WkR)(k:Str):Bool:=decide (k∈nodW s) && !decide (k.take 1=[35])
def ZHA (l:List WkR)(a b:Str):List Str×Int :=
 if (chkS l).2≠0 then ([],(chkS l).2) else if ZEB (ZAd (mrgU ltW l)) a=false\/ZEB (ZAd (mrgU ltW l)) b=false then ([],4) else (ZBr (nxtW (ZAd (mrgU ltW l))) a b (nodW (ZAd (mrgU ltW l))).length,0)
set_option maxHeartbeats 1000000 in
theorem ZQi {ad:Option Addr}{cap:Nat}{l:List WkR}{h:Heap}{a b:Str}(hR:SrcK rowW 6 h ad l)(hn:ad=none->l=[]/\cap=0)(hf:∀x∈l,x.Fit)(hlen:Len l)(hL:WkLib h)(hla:Len a)(hlb:Len b) :
  Sv Tryz.prog 30 [.slice ad l.length cap,str a,str b] h (RetP fun v h'=>∃v1,v=.tuple ⟨[v1,i64 (ZHA l a b).2]⟩/\ZAD h h' v1 9 1 ((ZHA l a b).1.map str) (ZHA l a b).1.length/\Ext h h'):=by
 have hop:=ZJ3 hR hn hf hlen hL;unfold ZOz at hop;have hcl:=ZGI (l:=l);have hcg:=ZFW (l:=l);unfold ZHA;generalize chkS l=ck at *;refine ZAF Tryz.func30 rfl (by rw[Tryz.ntmps30];rfl) ?_;show Wc Tryz.prog ⟨30,50,none⟩ _ _ _ _ _;refine zy ?_;refine ZA0 rfl rfl rfl rfl rfl Bod.h rfl rfl hop ?_;rintro _ h1 ⟨⟨hc,rfl⟩|⟨hc,aS,af,rfl,hS,-⟩,hE1⟩
 ·refine zy ?_
  refine zD (A_tt hc (ZAo rfl rfl)) ?_;rw[if_pos hc];exact ZAB (ZAC rfl ⟨_,rfl,.nil _ _ _ _,hE1⟩)
 rw[if_neg (fun q=>q hc)];have hl2:=hcl hc;replace hcg:=hcg hc;have hsl:(ZAd (mrgU ltW l)).length<=200:=Nat.le_trans (ZJs l) hl2;have hsg:∀x∈ZAd (mrgU ltW l),ZA8 x=0:=fun x hx=>hcg x (ZGL hx);have hsf:∀x∈ZAd (mrgU ltW l),x.Fit:=fun x hx=>hf x (ZGL hx);clear hcl hcg hop;generalize ZAd (mrgU ltW l)=S at *;generalize ZCB (mrgU ltW l)=F at *;have hnl:(nodW S).length<=10000:=Nat.le_trans (ZL9 S) (by omega);have hne:=ZPT hsg;refine zy ?_;refine zD (A_ff (fun q=>q rfl) (ZAo rfl rfl)) ?_;refine zR (ZTt hS hsf hsl) ?_;rintro _ h2 ⟨hE2,bm,rfl,hWo⟩;have hWb:=hWo.at';have hE12:=hE1.trans hE2;refine zy ?_;refine zD (ZFO (v:=.agg ⟨[str a,str b]⟩) rfl (by kernel_rfl)) ?_
 refine ZAO (fun (j:Nat) m ds h'=>ds=[]/\h2=h'/\j<=2/\(∀k,k∈[a,b].take j->ZEB S k=true)/\AllK m [(1,str a),(2,str b),(11,.map (some bm)),(29,.agg ⟨[str a,str b]⟩),(30,i64 (j:Nat))]) (fun j=>2-j) 0 ?_ ?_
 ·exact⟨rfl,rfl,Nat.zero_le _,by simp,rfl,rfl,rfl,rfl,rfl,trivial⟩
 rintro j m ds h3 ⟨rfl,rfl,hj,hok,hall⟩;refine Wc.le ?_ (Le.kn hall);clear hall;refine zy ?_;refine zC (ZAf rfl rfl) (fun hjl=>?_) (fun hjl=>?_);rotate_left
 ·have:j=2:=by omega
  subst this;have h1:=hok a (by simp);have h2':=hok b (by simp);rw[if_neg (by rw[h1,h2'];simp)];have hka:a∈nodW S:=by
   unfold ZEB at h1;simp only[Bool.and_eq_true,decide_eq_true_eq] at h1;exact h1.1
  refine zy ?_;refine zR (ZTb (b:=b) hWb hka hne hnl) ?_;rintro v4 h4 ⟨hE4,hF4,-⟩;refine zy ?_;exact ZAB (ZAC rfl ⟨v4,rfl,hF4.base hE12.2.1,hE12.trans hE4⟩)
 obtain⟨c,hix,hcl,htk,hbad⟩:∃c,ZGo Tryz.prog 53 (.agg ⟨[str a,str b]⟩) (i64 (j:Nat))=some (str c)/\Len c/\[a,b].take (j+1)=[a,b].take j++[c]/\(ZEB S c=false->ZEB S a=false\/ZEB S b=false):=by
  have hj2:j<2:=by omega
  rcases j with _|_|j
  ·exact⟨a,by kernel_rfl,hla,rfl,.inl⟩
  ·exact⟨b,by kernel_rfl,hlb,rfl,.inr⟩
  ·omega
 obtain⟨gl,hm1,hm2,hm3,hm4⟩:=hWb;have hq:=hm3 c;refine zy ?_;refine zD (ZQk rfl rfl hix) ?_
 by_cases hcn:c∈nodW S
 rotate_left
 ·rw[decide_eq_false hcn] at hq
  have hno:lkp c gl=none:=by
   cases hl:lkp c gl with
   | none=>rfl
   | some v=>rw[hl] at hq;cases hq
  refine zD (ZAX strK (k:=c) (v:=.slice none 0 0) (q:=false) Und.h Zr.h rfl hm1 rfl (by rw[hno];rfl) (by rw[hno];rfl)) ?_;rw[if_pos (hbad (by unfold ZEB;rw[decide_eq_false hcn];rfl))];exact ZAB (ZAC rfl ⟨_,rfl,.nil _ _ _ _,hE12⟩)
 obtain⟨ax,cx,hlx,-⟩:=hm4 c hcn;refine zD (ZAX strK (k:=c) (v:=.slice ax (nxtW S c).length cx) (q:=true) Und.h Zr.h rfl hm1 rfl (by rw[hlx];rfl) (by rw[hlx];rfl)) ?_;refine zU (ZKN (p:=[35]) hcl (by decide)) ?_
 by_cases hp:c.take 1=[35]
 ·rw[decide_eq_true (show c.take ([35]:Str).length=[35] from hp)]
  refine zy ?_;rw[if_pos (hbad (by unfold ZEB;rw[decide_eq_true hp];simp))];exact ZAB (ZAC rfl ⟨_,rfl,.nil _ _ _ _,hE12⟩)
 ·rw[decide_eq_false (show ¬c.take ([35]:Str).length=[35] from hp)]
  refine zy ?_;refine⟨j+1,(by show 2-(j+1)<2-j;omega),rfl,rfl,by omega,fun k hk=>?_,rfl,rfl,rfl,rfl,rfl,trivial⟩;rw[htk,List.mem_append,List.mem_singleton] at hk
  rcases hk with hk|rfl
  ·exact hok k hk
  ·unfold ZEB
   rw[decide_eq_true hcn,decide_eq_false hp];rfl
end Go.Dw
