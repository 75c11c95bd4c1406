/- T1: contracts: whether a text is one of a subtitle, packages screen and telecineref11. -/
import Derived.Lib.TrimUEq
import Derived.Lib.TrimAscii
import Derived.Test.YtfgeelpahicelaaGreatDoorVG3
import Derived.Test.YtfgeelpahicelaaGreatDoorVG5
import Derived.Test.YtfgeelpahicelaaGreatDoorVG7
import Derived.Test.YtfgeelpahicelaaGreatDoorVG2
set_option linter.unusedVariables false
set_option linter.unusedSimpArgs false
namespace Go.Dw
open Go Go.Dx Go.Proofs
set_option maxRecDepth 100000
section
variable {P:Program}{fr:Fr}{m:Mem}{ds:List ADef}{h:Heap}{Q:CQ}{ops:Array Oper}{l:List Oper}{d:Nat}{ty:TypeId}{pos:String}{af:Array Edge}{gu:Option (Nat×Bool)}
theorem Wo_range {t:TypeId}{x:Operand}{s:List UInt8}(hg:gk ops.toList m gu=some true)(hlt:Nat.blt d fr.nt=true)(hu:P.underlying t=some .string)(hx:opk h m x=some (str s))
  (hk:∀h1,Ext h h1->WF h1->h1.get h.nx=some (.siter ⟨⟨s⟩⟩ 0)->h1.nx=h.nx+1->Wo P fr ops l (Dw.upd m d (.pointer (some ⟨h.nx,0,none⟩))) ds h1 Q):Wo P fr ops (⟨some d,.range t x,ty,pos,af,gu⟩::l) m ds h Q :=
 Wo_wf fun hw=>Wo_do (v:=.pointer (some ⟨h.nx,0,none⟩)) (h1:=h.add (.siter ⟨⟨s⟩⟩ 0)) hg rfl rfl hlt (Aop_of fun e hs=>by
  show pRange P h e t x=_
  unfold pRange
  simp only[hu,opk_opv hs hx]) (hk _ (Ext.add hw _) (hw.add _) Heap.get_add_same rfl)
theorem A_nextEnd {x:Operand}{b n:Nat}{s:List UInt8}{d:Option Tmp}(hx:opk h m x=some (.pointer (some ⟨b,0,none⟩)))(hb:h.get b=some (.siter ⟨⟨s⟩⟩ n))(hn:¬n<s.length):Aop P ⟨d,.next x true,ty,pos,af,gu⟩ m h (.tuple ⟨[.bool false]⟩) h :=
 Aop_of fun e hs=>by
  show pNext h e x true=_
  unfold pNext
  have hl:Nat.blt n s.length=false:=by
   cases q:Nat.blt n s.length
   ·rfl
   ·exact absurd (Nat.le_of_ble_eq_true q) hn
  simp only[opk_opv hs hx,hb]
  show (@Bool.casesOn (fun _=>AR) (Nat.blt n s.length) (.ok (.tuple ⟨[.bool false]⟩) h) _)=_
  rw[hl]
theorem A_next {x:Operand}{b n c k:Nat}{s:List UInt8}{d:Option Tmp}(hx:opk h m x=some (.pointer (some ⟨b,0,none⟩)))(hb:h.get b=some (.siter ⟨⟨s⟩⟩ n))(hn:n<s.length)(hd:Utf8.decode ⟨⟨s⟩⟩ n=(c,k)):Aop P ⟨d,.next x true,ty,pos,af,gu⟩ m h (.tuple ⟨[.bool true,i64 n,.int .i32 c]⟩) (h.set b (.siter ⟨⟨s⟩⟩ (n+k))) :=
 Aop_of fun e hs=>by
  show pNext h e x true=_
  unfold pNext
  have hl:Nat.blt n s.length=true:=Nat.ble_eq_true_of_le hn
  simp only[opk_opv hs hx,hb]
  show (@Bool.casesOn (fun _=>AR) (Nat.blt n s.length) (.ok (.tuple ⟨[.bool false]⟩) h) _)=_
  rw[hl]
  show (match Utf8.decode ⟨⟨s⟩⟩ n with|(c,width)=>_)=_
  rw[hd]
  rfl
end
theorem decode_low {s:List UInt8}{n:Nat}(hn:n<s.length)(h:s[n].toNat<128):Utf8.decode ⟨⟨s⟩⟩ n=(s[n].toNat,1):=by
 have e:((⟨⟨s⟩⟩:ByteArray).get! (n+0))=s[n]:=by
  show (⟨s⟩:Array UInt8)[n+0]! = _
  simp[hn]
 unfold Utf8.decode
 simp only[e]
 rw[if_pos h]
theorem decode_high {s:List UInt8}{n:Nat}(hn:n<s.length)(h:¬s[n].toNat<128):128<=(Utf8.decode ⟨⟨s⟩⟩ n).1:=by
 have e:((⟨⟨s⟩⟩:ByteArray).get! (n+0))=s[n]:=by
  show (⟨s⟩:Array UInt8)[n+0]! = _
  simp[hn]
 have hr:128<=Utf8.runeError:=by decide
 unfold Utf8.decode
 simp only[e]
 rw[if_neg h]
 split
 ·split
  ·assumption
  ·exact hr
 split
 ·split
  ·rename_i q
   simp only[Bool.and_eq_true,decide_eq_true_eq] at q
   show 128<=_
   have:=q.1
   omega
  ·exact hr
 split
 ·split
  ·rename_i q
   simp only[Bool.and_eq_true,decide_eq_true_eq] at q
   show 128<=_
   have:=q.1
   omega
  ·exact hr
 exact hr
def priB (c:UInt8):Bool:=decide (32<=c.toNat/\c.toNat<=126)
theorem priC_sv {c:Int}{h:Heap}(h1:0<=c)(h2:c<=1114111):Sv Tryz.prog 184 [.int .i32 c] h (RetP fun v h'=>v=.bool (decide (c<32\/126<c))/\h'=h):=by
 have hw:IntKind.i64.wrap c=c:=IntWalk.i64_in _ (by omega)
 refine Sv_enter Tryz.func184 rfl (by rw[Tryz.ntmps184];rfl) ?_;show Wc Tryz.prog ⟨184,6,none⟩ _ _ _ _ _
 refine zy ?_
 refine Wo_do rfl rfl rfl rfl (A_convV ⟨_,Und.h⟩ Und.h rfl hw) ?_
 refine zy ?_
 refine Wo_callV rfl rfl rfl rfl rfl Bod.h rfl rfl (out_sv _ _ _ _) ?_
 refine zy ?_
 exact Wc_ret (Lv_ret rfl ⟨rfl,rfl⟩)
def IxR (s:List UInt8)(h:Heap)(v:Value)(h':Heap):Prop:=Ext h h'/\∃n:Int,v=i64 n/\(n<0 ↔ s.all priB=true)
theorem indexPri_sv {s:List UInt8}{h:Heap}(hs:Len s):Sv Tryz.prog 209 [str s,.func (.func 184) ⟨[]⟩ ⟨[]⟩,.bool true] h (RetP (IxR s h)):=by
 refine Sv_wf fun hw=>?_
 refine Sv_enter Tryz.func209 rfl (by rw[Tryz.ntmps209];rfl) ?_;show Wc Tryz.prog ⟨209,21,none⟩ _ _ _ _ _
 refine zy ?_
 refine Wo_range rfl rfl Und.h rfl fun h1 hE1 hW1 hg1 hn1=>?_
 have hb:h.nx<=h.nx:=Nat.le_refl _
 generalize hbq:h.nx=b at hg1 hb ⊢
 refine zy ?_
 refine Wc_loop (fun (k:Nat) m ds h'=>ds=[]/\Ext h h'/\h'.get b=some (.siter ⟨⟨s⟩⟩ k)/\k<=s.length/\(∀j (hj:j<s.length),j<k->priB s[j]=true)/\AllK m [(1,.func (.func 184) ⟨[]⟩ ⟨[]⟩),(2,.bool true),(10,.pointer (some ⟨b,0,none⟩))]) (fun k=>s.length-k) 0 ?_ ?_
 ·exact⟨rfl,hE1,hg1,Nat.zero_le _,(fun j _ hj=>absurd hj (Nat.not_lt_zero _)),rfl,rfl,rfl,trivial⟩
 clear hE1 hW1 hg1 hn1
 clear h1
 rintro k m ds h1 ⟨rfl,hE1,hg1,hk,hno,hall⟩
 refine Wc.le ?_ (Le.kn hall)
 refine zy ?_
 by_cases hk':k<s.length
 rotate_left
 ·refine Wo_do rfl rfl rfl rfl (A_nextEnd rfl hg1 hk') ?_
  refine zy ?_
  refine Wc_ret (Lv_ret rfl ⟨hE1,-1,rfl,⟨fun _=>?_,fun _=>by decide⟩⟩)
  rw[List.all_eq_true]
  intro x hx
  obtain⟨j,hj,rfl⟩:=List.getElem_of_mem hx
  exact hno j hj (by omega)
 obtain⟨c,w,hd⟩:∃c w,Utf8.decode ⟨⟨s⟩⟩ k=(c,w):=⟨_,_,rfl⟩
 have hc1:=Lib.rune_le ⟨⟨s⟩⟩ k
 have hlo:=decode_low hk'
 have hhi:=decode_high hk'
 rw[hd] at hc1 hlo hhi
 simp only at hc1 hhi
 have hU:=Upd.mk' h1 b (.siter ⟨⟨s⟩⟩ (k+w))
 have hE2:=hU.ext hE1 hw (by omega)
 have hg2:=hU.at'
 refine Wo_do rfl rfl rfl rfl (A_next rfl hg1 hk' hd) ?_
 generalize h1.set b (.siter ⟨⟨s⟩⟩ (k+w))=h2 at *
 refine zy ?_
 refine Wo_callV rfl rfl rfl rfl rfl Bod.h rfl rfl (priC_sv (c:=(c:Int)) (by omega) (by omega)) ?_
 refine zy ?_
 by_cases hp:priB s[k]=true
 ·have hp':=hp
  unfold priB at hp'
  replace hp':=of_decide_eq_true hp'
  have hcw:=hlo (by omega)
  obtain⟨rfl,rfl⟩:c=s[k].toNat/\w=1:=by
   simp only[Prod.mk.injEq] at hcw
   exact hcw
  refine Wo_do rfl rfl rfl rfl (A_ff (by rw[decide_eq_false (by omega)];decide) (A_eqlB Und.h rfl rfl)) ?_
  refine zy ?_
  refine⟨k+1,(by show s.length-(k+1)<s.length-k;omega),rfl,hE2,hg2,hk',fun j hj hlt=>?_,rfl,rfl,rfl,trivial⟩
  rcases Nat.lt_or_ge j k with g|g
  ·exact hno j hj g
  ·have:j=k:=by omega
   subst this;exact hp
 ·have hc2:(c:Int)<32\/126<(c:Int):=by
   by_cases h8:s[k].toNat<128
   ·have hcw:=hlo h8
    simp only[Prod.mk.injEq] at hcw
    have:¬(32<=s[k].toNat/\s[k].toNat<=126):=fun e=>hp (decide_eq_true e)
    omega
   ·have:=hhi h8
    omega
  refine Wo_do rfl rfl rfl rfl (A_tt (by rw[decide_eq_true hc2]) (A_eqlB Und.h rfl rfl)) ?_
  refine zy ?_
  refine Wc_ret (Lv_ret rfl ⟨hE2,k,rfl,⟨fun e=>by omega,fun e=>?_⟩⟩)
  exact absurd (List.all_eq_true.1 e _ (List.getElem_mem hk')) hp
theorem indexFuncP_sv {s:List UInt8}{h:Heap}(hs:Len s):Sv Tryz.prog 183 [str s,.func (.func 184) ⟨[]⟩ ⟨[]⟩] h (RetP (IxR s h)):=by
 refine Sv_enter Tryz.func183 rfl (by rw[Tryz.ntmps183];rfl) ?_;show Wc Tryz.prog ⟨183,8,none⟩ _ _ _ _ _
 refine zy ?_
 refine Wo_callr rfl rfl rfl rfl rfl Bod.h rfl rfl (indexPri_sv hs) ?_
 rintro v h1 ⟨hE1,n,rfl,hn⟩
 refine zy ?_
 exact Wc_ret (Lv_ret rfl ⟨hE1,n,rfl,hn⟩)
theorem trimL_len:∀(f:Nat)(l:List UInt8),(Lib.trimLeftD f l).length<=l.length
 | 0,l=>Nat.le_refl _
 | f+1,l=>by
  unfold Lib.trimLeftD
  split
  ·exact Nat.zero_le _
  ·split
   ·have:=trimL_len f (l.drop (Lib.decodeL l).2)
    rw[List.length_drop] at this
    omega
   ·exact Nat.le_refl _
theorem trimR_len:∀(f:Nat)(l:List UInt8),(Lib.trimRightD f l).length<=l.length
 | 0,l=>Nat.le_refl _
 | f+1,l=>by
  unfold Lib.trimRightD
  split
  ·exact Nat.zero_le _
  ·split
   ·have:=trimR_len f (l.take (l.length-(Lib.decodeLastL l).2))
    rw[List.length_take] at this
    omega
   ·exact Nat.le_refl _
theorem isSp_pri {c:UInt8}(h:priB c=true):Lib.isSp c=decide (c=32):=by
 have h':=of_decide_eq_true h
 unfold Lib.isSp
 have q:∀n:Nat,n<32->(c == UInt8.ofNat n)=false:=fun n hn=>by
  cases hq:c == UInt8.ofNat n
  ·rfl
  ·have:=eq_of_beq hq
   subst this
   have:(UInt8.ofNat n).toNat=n:=by simp;omega
   omega
 have e:=q 9 (by decide);have e2:=q 10 (by decide);have e3:=q 11 (by decide);have e4:=q 12 (by decide);have e5:=q 13 (by decide)
 have f1:(c == 9)=false:=e
 have f2:(c == 10)=false:=e2
 have f3:(c == 11)=false:=e3
 have f4:(c == 12)=false:=e4
 have f5:(c == 13)=false:=e5
 rw[f1,f2,f3,f4,f5]
 simp
 rfl
theorem trim_same {l:List UInt8}(hp:l.all priB=true)(h0:l≠[]):Lib.trimSpaceD l=l ↔ l.head?≠some 32/\l.getLast?≠some 32:=by
 rw[List.all_eq_true] at hp
 obtain⟨x,t,rfl⟩:=List.exists_cons_of_ne_nil h0
 have hx:=hp x List.mem_cons_self
 have hx':=of_decide_eq_true hx
 by_cases h32:x=32
 ·subst h32
  refine⟨fun e=>?_,fun e=>absurd rfl e.1⟩
  exfalso
  have hl:(Lib.trimSpaceD (32::t)).length<=t.length:=by
   unfold Lib.trimSpaceD
   refine Nat.le_trans (trimR_len _ _) ?_
   rw[show (32::t:List UInt8).length=t.length+1 from rfl,Lib.left_step _ _ _ (by decide)]
   exact trimL_len _ _
  rw[e,List.length_cons] at hl
  omega
 have hns:Lib.isSp x=false:=by rw[isSp_pri hx];exact decide_eq_false h32
 have hleft:Lib.trimLeftD (x::t).length (x::t)=x::t:=Lib.left_stop _ _ _ hns (by omega)
 obtain⟨u,y,e⟩:∃u y,x::t=u++[y]:=⟨_,_,(List.dropLast_concat_getLast (List.cons_ne_nil x t)).symm⟩
 have hy:=hp y (by rw[e];exact List.mem_append_right _ List.mem_cons_self)
 have hy':=of_decide_eq_true hy
 have hgl:(x::t).getLast?=some y:=by rw[e];exact List.getLast?_concat
 rw[hgl]
 by_cases hy32:y=32
 ·subst hy32
  refine⟨fun q=>?_,fun q=>absurd rfl q.2⟩
  exfalso
  have hl:(Lib.trimSpaceD (x::t)).length<=u.length:=by
   unfold Lib.trimSpaceD
   rw[hleft,e,List.length_append,List.length_singleton,Lib.right_step _ _ _ (by decide)]
   exact trimR_len _ _
  rw[q,e,List.length_append,List.length_singleton] at hl
  omega
 ·refine⟨fun _=>⟨fun q=>h32 (Option.some.inj q),fun q=>hy32 (Option.some.inj q)⟩,fun _=>?_⟩
  unfold Lib.trimSpaceD
  rw[hleft,e,List.length_append,List.length_singleton]
  exact Lib.right_stop _ _ _ (by rw[isSp_pri hy];exact decide_eq_false hy32) (by omega)
theorem textB_eq (s:List UInt8):textB s=(decide (1<=s.length/\s.length<=80) && decide (Lib.trimSpaceD s=s) && s.all priB):=by
 have ha:(s.all fun c=>decide (32<=c.toNat/\c.toNat<=126))=s.all priB:=rfl
 unfold textB
 rw[ha]
 by_cases hp:s.all priB=true
 ·rw[hp,Bool.and_true,Bool.and_true]
  by_cases hl:1<=s.length/\s.length<=80
  ·have hne:s≠[]:=by intro e;rw[e] at hl;exact absurd hl.1 (by decide)
   rw[decide_eq_true hl,Bool.true_and,Bool.true_and]
   have:=trim_same hp hne
   rw[Bool.eq_iff_iff]
   simp only[Bool.and_eq_true,Bool.not_eq_true',decide_eq_false_iff_not,decide_eq_true_eq]
   exact this.symm
  ·rw[decide_eq_false hl];simp
 ·have hp':s.all priB=false:=by simpa using hp
  rw[hp'];simp
theorem printed_sv {s:List UInt8}{h:Heap}(hs:Len s)(hL:LibAt h):Sv Tryz.prog 148 [str s] h (RetP fun v h'=>v=.bool (textB s)/\Ext h h'):=by
 rw[textB_eq]
 refine Sv_enter Tryz.func148 rfl (by rw[Tryz.ntmps148];rfl) ?_;show Wc Tryz.prog ⟨148,15,none⟩ _ _ _ _ _
 refine zy ?_
 by_cases hl:(s.length:Int)<1\/80<(s.length:Int)
 ·refine Wo_callV rfl rfl rfl rfl rfl Bod.h rfl rfl (Sv_tt hl (out_sv _ _ _ _)) ?_
  refine zy ?_
  exact Wc_ret (Lv_ret rfl ⟨by rw[decide_eq_false (by omega)];rfl,Ext.refl _⟩)
 refine Wo_callV rfl rfl rfl rfl rfl Bod.h rfl rfl (Sv_ff hl (out_sv _ _ _ _)) ?_
 rw[decide_eq_true (show 1<=s.length/\s.length<=80 by omega),Bool.true_and]
 refine zy ?_
 refine Wo_callV rfl rfl rfl rfl rfl Bod.h rfl rfl (trimAny_sv hs hL) ?_
 refine zy ?_
 by_cases ht:Lib.trimSpaceD s=s
 rotate_left
 ·refine Wo_do rfl rfl rfl rfl (A_tt ht (A_neqStr rfl rfl)) ?_
  refine zy ?_
  exact Wc_ret (Lv_ret rfl ⟨by rw[decide_eq_false ht];rfl,Ext.refl _⟩)
 refine Wo_do rfl rfl rfl rfl (A_ff (fun e=>e ht) (A_neqStr rfl rfl)) ?_
 rw[decide_eq_true ht,Bool.true_and]
 refine zy ?_
 refine Wo_callr rfl rfl rfl rfl rfl Bod.h rfl rfl (indexFuncP_sv hs) ?_
 rintro v h1 ⟨hE1,n,rfl,hn⟩
 refine zy ?_
 refine Wo_do rfl rfl rfl rfl (A_lss rfl rfl) ?_
 refine zy ?_
 refine Wc_ret (Lv_ret rfl ⟨?_,hE1⟩)
 by_cases hp:s.all priB=true
 ·rw[hp,decide_eq_true (hn.2 hp)];rfl
 ·rw[decide_eq_false (fun e=>hp (hn.1 e)),show s.all priB=false by simpa using hp];rfl
end Go.Dw
