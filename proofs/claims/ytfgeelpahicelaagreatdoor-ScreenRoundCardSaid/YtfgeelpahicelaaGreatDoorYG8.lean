/- T1: contracts: whether a text is one of a subtitle, packages screen and telecineref11. -/
import Derived.Lib.TrimUEq
import Derived.Lib.TrimAscii
import Derived.Test.YtfgeelpahicelaaGreatDoorYG3
import Derived.Test.YtfgeelpahicelaaGreatDoorYG5
import Derived.Test.YtfgeelpahicelaaGreatDoorYG7
import Derived.Test.YtfgeelpahicelaaGreatDoorYG2
set_option linter.unusedVariables false
set_option linter.unusedSimpArgs false
namespace Go.Dw
open Go Go.Dx Go.Proofs
set_option maxRecDepth 100000
section
variable {P:Program}{fr:Fr}{m:Mem}{ds:List ADef}{h:Heap}{Q:CQ}{ops:Array Oper}{l:List Oper}{d:Nat}{ty:TypeId}{pos:String}{af:Array Edge}{gu:Option (Nat×Bool)}
theorem ZMJ {t:TypeId}{x:Operand}{s:List UInt8}(hg:gk ops.toList m gu=some true)(hlt:Nat.blt d fr.nt=true)(hu:P.underlying t=some .string)(hx:opk h m x=some (str s))
  (hk:∀h1,Ext h h1->WF h1->h1.get h.nx=some (.siter ⟨⟨s⟩⟩ 0)->h1.nx=h.nx+1->Wo P fr ops l (Dw.upd m d (.pointer (some ⟨h.nx,0,none⟩))) ds h1 Q):Wo P fr ops (⟨some d,.range t x,ty,pos,af,gu⟩::l) m ds h Q :=
 ZDI fun hw=>ZAB (v:=.pointer (some ⟨h.nx,0,none⟩)) (h1:=h.add (.siter ⟨⟨s⟩⟩ 0)) hg rfl rfl hlt (ZAa fun e hs=>by
  show ZFh P h e t x=_
  unfold ZFh;simp only[hu,ZAC hs hx]) (hk _ (Ext.add hw _) (hw.add _) Heap.get_add_same rfl)
theorem ZKM {x:Operand}{b n:Nat}{s:List UInt8}{d:Option Tmp}(hx:opk h m x=some (.pointer (some ⟨b,0,none⟩)))(hb:h.get b=some (.siter ⟨⟨s⟩⟩ n))(hn:¬n<s.length):Aop P ⟨d,.next x true,ty,pos,af,gu⟩ m h (.tuple ⟨[.bool false]⟩) h :=
 ZAa fun e hs=>by
  show ZHD h e x true=_
  unfold ZHD;have hl:Nat.blt n s.length=false:=by
   cases q:Nat.blt n s.length
   ·rfl
   ·exact absurd (Nat.le_of_ble_eq_true q) hn
  simp only[ZAC hs hx,hb]
  show (@Bool.casesOn (fun _=>AR) (Nat.blt n s.length) (.ok (.tuple ⟨[.bool false]⟩) h) _)=_
  rw[hl]
theorem ZOV {x:Operand}{b n c k:Nat}{s:List UInt8}{d:Option Tmp}(hx:opk h m x=some (.pointer (some ⟨b,0,none⟩)))(hb:h.get b=some (.siter ⟨⟨s⟩⟩ n))(hn:n<s.length)(hd:Utf8.decode ⟨⟨s⟩⟩ n=(c,k)):Aop P ⟨d,.next x true,ty,pos,af,gu⟩ m h (.tuple ⟨[.bool true,i64 n,.int .i32 c]⟩) (h.set b (.siter ⟨⟨s⟩⟩ (n+k))) :=
 ZAa fun e hs=>by
  show ZHD h e x true=_
  unfold ZHD;have hl:Nat.blt n s.length=true:=Nat.ble_eq_true_of_le hn;simp only[ZAC hs hx,hb]
  show (@Bool.casesOn (fun _=>AR) (Nat.blt n s.length) (.ok (.tuple ⟨[.bool false]⟩) h) _)=_
  rw[hl]
  show (match Utf8.decode ⟨⟨s⟩⟩ n with|(c,width)=>_)=_
  rw[hd]
  rfl
end
theorem ZJs {s:List UInt8}{n:Nat}(hn:n<s.length)(h:s[n].toNat<128):Utf8.decode ⟨⟨s⟩⟩ n=(s[n].toNat,1):=by
 have e:((⟨⟨s⟩⟩:ByteArray).get! (n+0))=s[n]:=by
  show (⟨s⟩:Array UInt8)[n+0]! = _
  simp[hn]
 unfold Utf8.decode;simp only[e];rw[if_pos h]
theorem ZIX {s:List UInt8}{n:Nat}(hn:n<s.length)(h:¬s[n].toNat<128):128<=(Utf8.decode ⟨⟨s⟩⟩ n).1:=by
 have e:((⟨⟨s⟩⟩:ByteArray).get! (n+0))=s[n]:=by
  show (⟨s⟩:Array UInt8)[n+0]! = _
  simp[hn]
 have hr:128<=Utf8.runeError:=by decide
 unfold Utf8.decode;simp only[e];rw[if_neg h]
 split
 ·split
  ·assumption
  ·exact hr
 split
 ·split
  ·rename_i q
   simp only[Bool.and_eq_true,decide_eq_true_eq] at q
   show 128<=_
   have:=q.1;omega
  ·exact hr
 split
 ·split
  ·rename_i q
   simp only[Bool.and_eq_true,decide_eq_true_eq] at q
   show 128<=_
   have:=q.1;omega
  ·exact hr
 exact hr
def priB (c:UInt8):Bool:=decide (32<=c.toNat/\c.toNat<=126)
theorem ZNI {c:Int}{h:Heap}(h1:0<=c)(h2:c<=1114111):Sv Tryz.prog 184 [.int .i32 c] h (RetP fun v h'=>v=.bool (decide (c<32\/126<c))/\h'=h):=by
 have hw:IntKind.i64.wrap c=c:=IntWalk.i64_in _ (by omega);refine ZAJ Tryz.func184 rfl (by rw[Tryz.ntmps184];rfl) ?_;show Wc Tryz.prog ⟨184,6,none⟩ _ _ _ _ _;refine zy ?_;refine ZAB rfl rfl rfl rfl (ZIK ⟨_,Und.h⟩ Und.h rfl hw) ?_;refine zy ?_;refine ZAP rfl rfl rfl rfl rfl Bod.h rfl rfl (ZHT _ _ _ _) ?_;refine zy ?_;exact ZAD (ZAE rfl ⟨rfl,rfl⟩)
def IxR (s:List UInt8)(h:Heap)(v:Value)(h':Heap):Prop:=Ext h h'/\∃n:Int,v=i64 n/\(n<0 ↔ s.all priB=true)
theorem ZH2 {s:List UInt8}{h:Heap}(hs:Len s):Sv Tryz.prog 209 [str s,.func (.func 184) ⟨[]⟩ ⟨[]⟩,.bool true] h (RetP (IxR s h)):=by
 refine ZFF fun hw=>?_;refine ZAJ Tryz.func209 rfl (by rw[Tryz.ntmps209];rfl) ?_;show Wc Tryz.prog ⟨209,21,none⟩ _ _ _ _ _;refine zy ?_;refine ZMJ rfl rfl Und.h rfl fun h1 hE1 hW1 hg1 hn1=>?_;have hb:h.nx<=h.nx:=Nat.le_refl _;generalize hbq:h.nx=b at hg1 hb ⊢;refine zy ?_;refine ZBC (fun (k:Nat) m ds h'=>ds=[]/\Ext h h'/\h'.get b=some (.siter ⟨⟨s⟩⟩ k)/\k<=s.length/\(∀j (hj:j<s.length),j<k->priB s[j]=true)/\AllK m [(1,.func (.func 184) ⟨[]⟩ ⟨[]⟩),(2,.bool true),(10,.pointer (some ⟨b,0,none⟩))]) (fun k=>s.length-k) 0 ?_ ?_
 ·exact⟨rfl,hE1,hg1,Nat.zero_le _,(fun j _ hj=>absurd hj (Nat.not_lt_zero _)),rfl,rfl,rfl,trivial⟩
 clear hE1 hW1 hg1 hn1;clear h1;rintro k m ds h1 ⟨rfl,hE1,hg1,hk,hno,hall⟩;refine Wc.le ?_ (Le.kn hall);refine zy ?_
 by_cases hk':k<s.length
 rotate_left
 ·refine ZAB rfl rfl rfl rfl (ZKM rfl hg1 hk') ?_
  refine zy ?_;refine ZAD (ZAE rfl ⟨hE1,-1,rfl,⟨fun _=>?_,fun _=>by decide⟩⟩);rw[List.all_eq_true];intro x hx;obtain⟨j,hj,rfl⟩:=List.getElem_of_mem hx;exact hno j hj (by omega)
 obtain⟨c,w,hd⟩:∃c w,Utf8.decode ⟨⟨s⟩⟩ k=(c,w):=⟨_,_,rfl⟩;have hc1:=Lib.rune_le ⟨⟨s⟩⟩ k;have hlo:=ZJs hk';have hhi:=ZIX hk';rw[hd] at hc1 hlo hhi;simp only at hc1 hhi;have hU:=Upd.mk' h1 b (.siter ⟨⟨s⟩⟩ (k+w));have hE2:=hU.ext hE1 hw (by omega);have hg2:=hU.at';refine ZAB rfl rfl rfl rfl (ZOV rfl hg1 hk' hd) ?_;generalize h1.set b (.siter ⟨⟨s⟩⟩ (k+w))=h2 at *;refine zy ?_;refine ZAP rfl rfl rfl rfl rfl Bod.h rfl rfl (ZNI (c:=(c:Int)) (by omega) (by omega)) ?_;refine zy ?_
 by_cases hp:priB s[k]=true
 ·have hp':=hp
  unfold priB at hp';replace hp':=of_decide_eq_true hp';have hcw:=hlo (by omega);obtain⟨rfl,rfl⟩:c=s[k].toNat/\w=1:=by
   simp only[Prod.mk.injEq] at hcw;exact hcw
  refine ZAB rfl rfl rfl rfl (A_ff (by rw[decide_eq_false (by omega)];decide) (ZMj Und.h rfl rfl)) ?_;refine zy ?_;refine⟨k+1,(by show s.length-(k+1)<s.length-k;omega),rfl,hE2,hg2,hk',fun j hj hlt=>?_,rfl,rfl,rfl,trivial⟩
  rcases Nat.lt_or_ge j k with g|g
  ·exact hno j hj g
  ·have:j=k:=by omega
   subst this;exact hp
 ·have hc2:(c:Int)<32\/126<(c:Int):=by
   by_cases h8:s[k].toNat<128
   ·have hcw:=hlo h8
    simp only[Prod.mk.injEq] at hcw;have:¬(32<=s[k].toNat/\s[k].toNat<=126):=fun e=>hp (decide_eq_true e);omega
   ·have:=hhi h8
    omega
  refine ZAB rfl rfl rfl rfl (A_tt (by rw[decide_eq_true hc2]) (ZMj Und.h rfl rfl)) ?_;refine zy ?_;refine ZAD (ZAE rfl ⟨hE2,k,rfl,⟨fun e=>by omega,fun e=>?_⟩⟩);exact absurd (List.all_eq_true.1 e _ (List.getElem_mem hk')) hp
theorem ZGV {s:List UInt8}{h:Heap}(hs:Len s):Sv Tryz.prog 183 [str s,.func (.func 184) ⟨[]⟩ ⟨[]⟩] h (RetP (IxR s h)):=by
 refine ZAJ Tryz.func183 rfl (by rw[Tryz.ntmps183];rfl) ?_;show Wc Tryz.prog ⟨183,8,none⟩ _ _ _ _ _;refine zy ?_;refine ZAb rfl rfl rfl rfl rfl Bod.h rfl rfl (ZH2 hs) ?_;rintro v h1 ⟨hE1,n,rfl,hn⟩;refine zy ?_;exact ZAD (ZAE rfl ⟨hE1,n,rfl,hn⟩)
theorem ZHS:∀(f:Nat)(l:List UInt8),(Lib.trimLeftD f l).length<=l.length
 | 0,l=>Nat.le_refl _
 | f+1,l=>by
  unfold Lib.trimLeftD
  split
  ·exact Nat.zero_le _
  ·split
   ·have:=ZHS f (l.drop (Lib.decodeL l).2)
    rw[List.length_drop] at this;omega
   ·exact Nat.le_refl _
theorem ZEc:∀(f:Nat)(l:List UInt8),(Lib.trimRightD f l).length<=l.length
 | 0,l=>Nat.le_refl _
 | f+1,l=>by
  unfold Lib.trimRightD
  split
  ·exact Nat.zero_le _
  ·split
   ·have:=ZEc f (l.take (l.length-(Lib.decodeLastL l).2))
    rw[List.length_take] at this;omega
   ·exact Nat.le_refl _
theorem ZJP {c:UInt8}(h:priB c=true):Lib.isSp c=decide (c=32):=by
 have h':=of_decide_eq_true h;unfold Lib.isSp
 have q:∀n:Nat,n<32->(c == UInt8.ofNat n)=false:=fun n hn=>by
  cases hq:c == UInt8.ofNat n
  ·rfl
  ·have:=eq_of_beq hq
   subst this;have:(UInt8.ofNat n).toNat=n:=by simp;omega
   omega
 have e:=q 9 (by decide);have e2:=q 10 (by decide);have e3:=q 11 (by decide);have e4:=q 12 (by decide);have e5:=q 13 (by decide);have f1:(c == 9)=false:=e;have f2:(c == 10)=false:=e2;have f3:(c == 11)=false:=e3;have f4:(c == 12)=false:=e4;have f5:(c == 13)=false:=e5;rw[f1,f2,f3,f4,f5];simp
 rfl
theorem ZKg {l:List UInt8}(hp:l.all priB=true)(h0:l≠[]):Lib.trimSpaceD l=l ↔ l.head?≠some 32/\l.getLast?≠some 32:=by
 rw[List.all_eq_true] at hp;obtain⟨x,t,rfl⟩:=List.exists_cons_of_ne_nil h0;have hx:=hp x List.mem_cons_self;have hx':=of_decide_eq_true hx
 by_cases h32:x=32
 ·subst h32
  refine⟨fun e=>?_,fun e=>absurd rfl e.1⟩
  exfalso
  have hl:(Lib.trimSpaceD (32::t)).length<=t.length:=by
   unfold Lib.trimSpaceD;refine Nat.le_trans (ZEc _ _) ?_;rw[show (32::t:List UInt8).length=t.length+1 from rfl,Lib.left_step _ _ _ (by decide)];exact ZHS _ _
  rw[e,List.length_cons] at hl;omega
 have hns:Lib.isSp x=false:=by rw[ZJP hx];exact decide_eq_false h32
 have hleft:Lib.trimLeftD (x::t).length (x::t)=x::t:=Lib.left_stop _ _ _ hns (by omega);obtain⟨u,y,e⟩:∃u y,x::t=u++[y]:=⟨_,_,(List.dropLast_concat_getLast (List.cons_ne_nil x t)).symm⟩;have hy:=hp y (by rw[e];exact List.mem_append_right _ List.mem_cons_self);have hy':=of_decide_eq_true hy;have hgl:(x::t).getLast?=some y:=by rw[e];exact List.getLast?_concat
 rw[hgl]
 by_cases hy32:y=32
 ·subst hy32
  refine⟨fun q=>?_,fun q=>absurd rfl q.2⟩
  exfalso
  have hl:(Lib.trimSpaceD (x::t)).length<=u.length:=by
   unfold Lib.trimSpaceD;rw[hleft,e,List.length_append,List.length_singleton,Lib.right_step _ _ _ (by decide)];exact ZEc _ _
  rw[q,e,List.length_append,List.length_singleton] at hl;omega
 ·refine⟨fun _=>⟨fun q=>h32 (Option.some.inj q),fun q=>hy32 (Option.some.inj q)⟩,fun _=>?_⟩
  unfold Lib.trimSpaceD;rw[hleft,e,List.length_append,List.length_singleton];exact Lib.right_stop _ _ _ (by rw[ZJP hy];exact decide_eq_false hy32) (by omega)
theorem ZIv (s:List UInt8):ZC2 s=(decide (1<=s.length/\s.length<=80) && decide (Lib.trimSpaceD s=s) && s.all priB):=by
 have ha:(s.all fun c=>decide (32<=c.toNat/\c.toNat<=126))=s.all priB:=rfl;unfold ZC2;rw[ha]
 by_cases hp:s.all priB=true
 ·rw[hp,Bool.and_true,Bool.and_true]
  by_cases hl:1<=s.length/\s.length<=80
  ·have hne:s≠[]:=by intro e;rw[e] at hl;exact absurd hl.1 (by decide)
   rw[decide_eq_true hl,Bool.true_and,Bool.true_and];have:=ZKg hp hne;rw[Bool.eq_iff_iff];simp only[Bool.and_eq_true,Bool.not_eq_true',decide_eq_false_iff_not,decide_eq_true_eq];exact this.symm
  ·rw[decide_eq_false hl];simp
 ·have hp':s.all priB=false:=by simpa using hp
  rw[hp'];simp
theorem ZJi {s:List UInt8}{h:Heap}(hs:Len s)(hL:LibAt h):Sv Tryz.prog 148 [str s] h (RetP fun v h'=>v=.bool (ZC2 s)/\Ext h h'):=by
 rw[ZIv];refine ZAJ Tryz.func148 rfl (by rw[Tryz.ntmps148];rfl) ?_;show Wc Tryz.prog ⟨148,15,none⟩ _ _ _ _ _;refine zy ?_
 by_cases hl:(s.length:Int)<1\/80<(s.length:Int)
 ·refine ZAP rfl rfl rfl rfl rfl Bod.h rfl rfl (ZNq hl (ZHT _ _ _ _)) ?_
  refine zy ?_;exact ZAD (ZAE rfl ⟨by rw[decide_eq_false (by omega)];rfl,Ext.refl _⟩)
 refine ZAP rfl rfl rfl rfl rfl Bod.h rfl rfl (ZOC hl (ZHT _ _ _ _)) ?_;rw[decide_eq_true (show 1<=s.length/\s.length<=80 by omega),Bool.true_and];refine zy ?_;refine ZAP rfl rfl rfl rfl rfl Bod.h rfl rfl (ZJm hs hL) ?_;refine zy ?_
 by_cases ht:Lib.trimSpaceD s=s
 rotate_left
 ·refine ZAB rfl rfl rfl rfl (A_tt ht (ZDe rfl rfl)) ?_
  refine zy ?_;exact ZAD (ZAE rfl ⟨by rw[decide_eq_false ht];rfl,Ext.refl _⟩)
 refine ZAB rfl rfl rfl rfl (A_ff (fun e=>e ht) (ZDe rfl rfl)) ?_;rw[decide_eq_true ht,Bool.true_and];refine zy ?_;refine ZAb rfl rfl rfl rfl rfl Bod.h rfl rfl (ZGV hs) ?_;rintro v h1 ⟨hE1,n,rfl,hn⟩;refine zy ?_;refine ZAB rfl rfl rfl rfl (ZCF rfl rfl) ?_;refine zy ?_;refine ZAD (ZAE rfl ⟨?_,hE1⟩)
 by_cases hp:s.all priB=true
 ·rw[hp,decide_eq_true (hn.2 hp)];rfl
 ·rw[decide_eq_false (fun e=>hp (hn.1 e)),show s.all priB=false by simpa using hp];rfl
theorem ZF1 {s:List UInt8}{h:Heap}(hs:Len s):Sv Tryz.prog 151 [str s] h (RetP fun v h'=>v=.bool (ZC2 s)/\h'=h):=by
 unfold ZC2;refine ZAJ Tryz.func151 rfl (by rw[Tryz.ntmps151];rfl) ?_;show Wc Tryz.prog ⟨151,37,none⟩ _ _ _ _ _;refine zy ?_
 by_cases hl:1<=(s.length:Int)/\(s.length:Int)<=80
 rotate_left
 ·refine ZAP rfl rfl rfl rfl rfl Bod.h rfl rfl (ZOC hl (ZLz _ _ _ _)) ?_
  refine zy ?_;exact ZAD (ZAE rfl ⟨by rw[decide_eq_false (by omega)];rfl,rfl⟩)
 refine ZAP rfl rfl rfl rfl rfl Bod.h rfl rfl (ZNq hl (ZLz _ _ _ _)) ?_;rw[decide_eq_true (show 1<=s.length/\s.length<=80 by omega),Bool.true_and];have h0:0<s.length:=by omega
 have hhd:s.head?=some s[0]:=by
  cases s with
  | nil=>exact absurd h0 (Nat.lt_irrefl 0)
  | cons=>rfl
 have hla:s.getLast?=some (s[s.length-1]'(by omega)):=by
  rw[List.getLast?_eq_getElem?,List.getElem?_eq_getElem (by omega)]
 have b32:∀c:UInt8,((c.toNat:Int)=32) ↔ c=32:=fun c=>⟨fun e=>UInt8.toNat_inj.1 (by show c.toNat=32;omega),fun e=>by subst e;rfl⟩;refine zy ?_;refine ZAB rfl rfl rfl rfl (ZAi (k:=0) Und.h rfl rfl rfl h0) ?_;refine zy ?_
 by_cases e1:((s[0]).toNat:Int)=32
 ·refine ZAB rfl rfl rfl rfl (A_tt e1 (ZCL rfl rfl)) ?_
  refine zy ?_;exact ZAD (ZAE rfl ⟨by rw[hhd,decide_eq_true (congrArg some ((b32 _).1 e1))];rfl,rfl⟩)
 refine ZAB rfl rfl rfl rfl (A_ff e1 (ZCL rfl rfl)) ?_;rw[hhd,decide_eq_false (fun q=>e1 ((b32 _).2 (Option.some.inj q)))];refine zy ?_;refine ZAB rfl rfl rfl rfl (ZAi (k:=s.length-1) Und.h rfl rfl (by omega) (by omega)) ?_;refine zy ?_
 by_cases e2:((s[s.length-1]'(by omega)).toNat:Int)=32
 ·refine ZAB rfl rfl rfl rfl (A_tt e2 (ZCL rfl rfl)) ?_
  refine zy ?_;exact ZAD (ZAE rfl ⟨by rw[hla,decide_eq_true (congrArg some ((b32 _).1 e2))];rfl,rfl⟩)
 refine ZAB rfl rfl rfl rfl (A_ff e2 (ZCL rfl rfl)) ?_;rw[hla,decide_eq_false (fun q=>e2 ((b32 _).2 (Option.some.inj q)))];refine zy ?_;refine ZBC (fun (k:Nat) m ds h'=>ds=[]/\h=h'/\k<=s.length/\(∀j (hj:j<s.length),j<k->32<=s[j].toNat/\s[j].toNat<=126)/\AllK m [(0,str s),(3,i64 k)]) (fun k=>s.length-k) 0 ?_ ?_
 ·exact⟨rfl,rfl,Nat.zero_le _,(fun j _ hj=>absurd hj (Nat.not_lt_zero _)),rfl,rfl,trivial⟩
 rintro k m ds h' ⟨rfl,rfl,hk,hno,hall⟩;refine Wc.le ?_ (Le.kn hall);refine zy ?_;refine ZAl rfl rfl rfl rfl (ZCF rfl rfl) (fun h4=>?_) (fun h4=>?_);rotate_left
 ·have hk2:k=s.length:=by omega
  subst hk2;refine zy ?_;refine ZAD (ZAE rfl ⟨?_,rfl⟩);have:(s.all fun c=>decide (32<=c.toNat/\c.toNat<=126))=true:=by
   rw[List.all_eq_true];intro x hx;obtain⟨j,hj,rfl⟩:=List.getElem_of_mem hx;exact decide_eq_true (hno j hj hj)
  rw[this];rfl
 have hk':k<s.length:=by simpa using h4
 have hbad:¬(32<=s[k].toNat/\s[k].toNat<=126)->(s.all fun c=>decide (32<=c.toNat/\c.toNat<=126))=false:=fun q=>by
  rw[List.all_eq_false];exact⟨_,List.getElem_mem hk',by simpa using q⟩
 refine zy ?_;refine ZAB rfl rfl rfl rfl (ZAi (k:=k) Und.h rfl rfl rfl hk') ?_;refine zy ?_
 by_cases e3:(s[k].toNat:Int)<32
 ·refine ZAB rfl rfl rfl rfl (A_tt e3 (ZCF rfl rfl)) ?_
  refine zy ?_;exact ZAD (ZAE rfl ⟨by rw[hbad (by omega)];rfl,rfl⟩)
 refine ZAB rfl rfl rfl rfl (A_ff e3 (ZCF rfl rfl)) ?_;refine zy ?_;refine ZAB rfl rfl rfl rfl (ZAi (k:=k) Und.h rfl rfl rfl hk') ?_;refine zy ?_
 by_cases e4:126<(s[k].toNat:Int)
 ·refine ZAB rfl rfl rfl rfl (A_tt e4 (ZB1 rfl rfl)) ?_
  refine zy ?_;exact ZAD (ZAE rfl ⟨by rw[hbad (by omega)];rfl,rfl⟩)
 refine ZAB rfl rfl rfl rfl (A_ff e4 (ZB1 rfl rfl)) ?_;refine zy ?_;refine⟨k+1,(by show s.length-(k+1)<s.length-k;omega),rfl,rfl,hk',fun j hj hlt=>?_,rfl,rfl,trivial⟩
 rcases Nat.lt_or_ge j k with g|g
 ·exact hno j hj g
 ·have:j=k:=by omega
  subst this;omega
end Go.Dw
