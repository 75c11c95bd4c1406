/- T1: contracts: whether a text is one of a subtitle, packages screen and telecineref11. -/
import Derived.Lib.TrimUEq
import Derived.Lib.TrimAscii
import Derived.Test.YtfgeelpahicelaaGreatDoorUG5
import Derived.Test.YtfgeelpahicelaaGreatDoorUG4
import Derived.Test.YtfgeelpahicelaaGreatDoorUG9
import Derived.Test.YtfgeelpahicelaaGreatDoorUG2
import Derived.Test.YtfgeelpahicelaaGreatDoorUG13
import Derived.Test.YtfgeelpahicelaaGreatDoorUG10
set_option linter.unusedVariables false
set_option linter.unusedSimpArgs false
namespace Go.Dw
open Go Go.Dx Go.Proofs
set_option maxRecDepth 100000
section
variable {P:Program}{fr:Fr}{m:Mem}{ds:List ADef}{h:Heap}{Q:CQ}{ops:Array Oper}{l:List Oper}{d:Nat}{ty:TypeId}{pos:String}{af:Array Edge}{gu:Option (Nat×Bool)}
theorem Wo_range {t:TypeId}{x:Operand}{s:List UInt8}(hg:gk ops.toList m gu=some true)(hlt:Nat.blt d fr.nt=true)(hu:P.underlying t=some .string)(hx:opk h m x=some (str s))
  (hk:∀h1,Ext h h1->WF h1->h1.get h.nx=some (.siter ⟨⟨s⟩⟩ 0)->h1.nx=h.nx+1->Wo P fr ops l (Dw.upd m d (.pointer (some ⟨h.nx,0,none⟩))) ds h1 Q):Wo P fr ops (⟨some d,.range t x,ty,pos,af,gu⟩::l) m ds h Q :=
 Wo_wf fun hw=>Wo_do (v:=.pointer (some ⟨h.nx,0,none⟩)) (h1:=h.add (.siter ⟨⟨s⟩⟩ 0)) hg rfl rfl hlt (Aop_of fun e hs=>by
  show pRange P h e t x=_
  unfold pRange
  simp only[hu,opk_opv hs hx]) (hk _ (Ext.add hw _) (hw.add _) Heap.get_add_same rfl)
theorem A_nextEnd {x:Operand}{b n:Nat}{s:List UInt8}{d:Option Tmp}(hx:opk h m x=some (.pointer (some ⟨b,0,none⟩)))(hb:h.get b=some (.siter ⟨⟨s⟩⟩ n))(hn:¬n<s.length):Aop P ⟨d,.next x true,ty,pos,af,gu⟩ m h (.tuple ⟨[.bool false]⟩) h :=
 Aop_of fun e hs=>by
  show pNext h e x true=_
  unfold pNext
  have hl:Nat.blt n s.length=false:=by
   cases q:Nat.blt n s.length
   ·rfl
   ·exact absurd (Nat.le_of_ble_eq_true q) hn
  simp only[opk_opv hs hx,hb]
  show (@Bool.casesOn (fun _=>AR) (Nat.blt n s.length) (.ok (.tuple ⟨[.bool false]⟩) h) _)=_
  rw[hl]
theorem A_next {x:Operand}{b n c k:Nat}{s:List UInt8}{d:Option Tmp}(hx:opk h m x=some (.pointer (some ⟨b,0,none⟩)))(hb:h.get b=some (.siter ⟨⟨s⟩⟩ n))(hn:n<s.length)(hd:Utf8.decode ⟨⟨s⟩⟩ n=(c,k)):Aop P ⟨d,.next x true,ty,pos,af,gu⟩ m h (.tuple ⟨[.bool true,i64 n,.int .i32 c]⟩) (h.set b (.siter ⟨⟨s⟩⟩ (n+k))) :=
 Aop_of fun e hs=>by
  show pNext h e x true=_
  unfold pNext
  have hl:Nat.blt n s.length=true:=Nat.ble_eq_true_of_le hn
  simp only[opk_opv hs hx,hb]
  show (@Bool.casesOn (fun _=>AR) (Nat.blt n s.length) (.ok (.tuple ⟨[.bool false]⟩) h) _)=_
  rw[hl]
  show (match Utf8.decode ⟨⟨s⟩⟩ n with|(c,width)=>_)=_
  rw[hd]
  rfl
end
theorem decode_low {s:List UInt8}{n:Nat}(hn:n<s.length)(h:s[n].toNat<128):Utf8.decode ⟨⟨s⟩⟩ n=(s[n].toNat,1):=by
 have e:((⟨⟨s⟩⟩:ByteArray).get! (n+0))=s[n]:=by
  show (⟨s⟩:Array UInt8)[n+0]! = _
  simp[hn]
 unfold Utf8.decode
 simp only[e]
 rw[if_pos h]
theorem decode_high {s:List UInt8}{n:Nat}(hn:n<s.length)(h:¬s[n].toNat<128):128<=(Utf8.decode ⟨⟨s⟩⟩ n).1:=by
 have e:((⟨⟨s⟩⟩:ByteArray).get! (n+0))=s[n]:=by
  show (⟨s⟩:Array UInt8)[n+0]! = _
  simp[hn]
 have hr:128<=Utf8.runeError:=by decide
 unfold Utf8.decode
 simp only[e]
 rw[if_neg h]
 split
 ·split
  ·assumption
  ·exact hr
 split
 ·split
  ·rename_i q
   simp only[Bool.and_eq_true,decide_eq_true_eq] at q
   show 128<=_
   have:=q.1
   omega
  ·exact hr
 split
 ·split
  ·rename_i q
   simp only[Bool.and_eq_true,decide_eq_true_eq] at q
   show 128<=_
   have:=q.1
   omega
  ·exact hr
 exact hr
def priB (c:UInt8):Bool:=decide (32<=c.toNat/\c.toNat<=126)
theorem priC_sv {c:Int}{h:Heap}(h1:0<=c)(h2:c<=1114111):Sv Tryz.prog 184 [.int .i32 c] h (RetP fun v h'=>v=.bool (decide (c<32\/126<c))/\h'=h):=by
 have hw:IntKind.i64.wrap c=c:=IntWalk.i64_in _ (by omega)
 refine Sv_enter Tryz.func184 rfl (by rw[Tryz.ntmps184];rfl) ?_;show Wc Tryz.prog ⟨184,6,none⟩ _ _ _ _ _
 refine zy ?_
 refine Wo_do rfl rfl rfl rfl (A_convV ⟨_,Und.h⟩ Und.h rfl hw) ?_
 refine zy ?_
 refine Wo_callV rfl rfl rfl rfl rfl Bod.h rfl rfl (out_sv _ _ _ _) ?_
 refine zy ?_
 exact Wc_ret (Lv_ret rfl ⟨rfl,rfl⟩)
def IxR (s:List UInt8)(h:Heap)(v:Value)(h':Heap):Prop:=Ext h h'/\∃n:Int,v=i64 n/\(n<0 ↔ s.all priB=true)
theorem indexPri_sv {s:List UInt8}{h:Heap}(hs:Len s):Sv Tryz.prog 209 [str s,.func (.func 184) ⟨[]⟩ ⟨[]⟩,.bool true] h (RetP (IxR s h)):=by
 refine Sv_wf fun hw=>?_
 refine Sv_enter Tryz.func209 rfl (by rw[Tryz.ntmps209];rfl) ?_;show Wc Tryz.prog ⟨209,21,none⟩ _ _ _ _ _
 refine zy ?_
 refine Wo_range rfl rfl Und.h rfl fun h1 hE1 hW1 hg1 hn1=>?_
 have hb:h.nx<=h.nx:=Nat.le_refl _
 generalize hbq:h.nx=b at hg1 hb ⊢
 refine zy ?_
 refine Wc_loop (fun (k:Nat) m ds h'=>ds=[]/\Ext h h'/\h'.get b=some (.siter ⟨⟨s⟩⟩ k)/\k<=s.length/\(∀j (hj:j<s.length),j<k->priB s[j]=true)/\AllK m [(1,.func (.func 184) ⟨[]⟩ ⟨[]⟩),(2,.bool true),(10,.pointer (some ⟨b,0,none⟩))]) (fun k=>s.length-k) 0 ?_ ?_
 ·exact⟨rfl,hE1,hg1,Nat.zero_le _,(fun j _ hj=>absurd hj (Nat.not_lt_zero _)),rfl,rfl,rfl,trivial⟩
 clear hE1 hW1 hg1 hn1
 clear h1
 rintro k m ds h1 ⟨rfl,hE1,hg1,hk,hno,hall⟩
 refine Wc.le ?_ (Le.kn hall)
 refine zy ?_
 by_cases hk':k<s.length
 rotate_left
 ·refine Wo_do rfl rfl rfl rfl (A_nextEnd rfl hg1 hk') ?_
  refine zy ?_
  refine Wc_ret (Lv_ret rfl ⟨hE1,-1,rfl,⟨fun _=>?_,fun _=>by decide⟩⟩)
  rw[List.all_eq_true]
  intro x hx
  obtain⟨j,hj,rfl⟩:=List.getElem_of_mem hx
  exact hno j hj (by omega)
 obtain⟨c,w,hd⟩:∃c w,Utf8.decode ⟨⟨s⟩⟩ k=(c,w):=⟨_,_,rfl⟩
 have hc1:=Lib.rune_le ⟨⟨s⟩⟩ k
 have hlo:=decode_low hk'
 have hhi:=decode_high hk'
 rw[hd] at hc1 hlo hhi
 simp only at hc1 hhi
 have hU:=Upd.mk' h1 b (.siter ⟨⟨s⟩⟩ (k+w))
 have hE2:=hU.ext hE1 hw (by omega)
 have hg2:=hU.at'
 refine Wo_do rfl rfl rfl rfl (A_next rfl hg1 hk' hd) ?_
 generalize h1.set b (.siter ⟨⟨s⟩⟩ (k+w))=h2 at *
 refine zy ?_
 refine Wo_callV rfl rfl rfl rfl rfl Bod.h rfl rfl (priC_sv (c:=(c:Int)) (by omega) (by omega)) ?_
 refine zy ?_
 by_cases hp:priB s[k]=true
 ·have hp':=hp
  unfold priB at hp'
  replace hp':=of_decide_eq_true hp'
  have hcw:=hlo (by omega)
  obtain⟨rfl,rfl⟩:c=s[k].toNat/\w=1:=by
   simp only[Prod.mk.injEq] at hcw
   exact hcw
  refine Wo_do rfl rfl rfl rfl (A_ff (by rw[decide_eq_false (by omega)];decide) (A_eqlB Und.h rfl rfl)) ?_
  refine zy ?_
  refine⟨k+1,(by show s.length-(k+1)<s.length-k;omega),rfl,hE2,hg2,hk',fun j hj hlt=>?_,rfl,rfl,rfl,trivial⟩
  rcases Nat.lt_or_ge j k with g|g
  ·exact hno j hj g
  ·have:j=k:=by omega
   subst this;exact hp
 ·have hc2:(c:Int)<32\/126<(c:Int):=by
   by_cases h8:s[k].toNat<128
   ·have hcw:=hlo h8
    simp only[Prod.mk.injEq] at hcw
    have:¬(32<=s[k].toNat/\s[k].toNat<=126):=fun e=>hp (decide_eq_true e)
    omega
   ·have:=hhi h8
    omega
  refine Wo_do rfl rfl rfl rfl (A_tt (by rw[decide_eq_true hc2]) (A_eqlB Und.h rfl rfl)) ?_
  refine zy ?_
  refine Wc_ret (Lv_ret rfl ⟨hE2,k,rfl,⟨fun e=>by omega,fun e=>?_⟩⟩)
  exact absurd (List.all_eq_true.1 e _ (List.getElem_mem hk')) hp
theorem indexFuncP_sv {s:List UInt8}{h:Heap}(hs:Len s):Sv Tryz.prog 183 [str s,.func (.func 184) ⟨[]⟩ ⟨[]⟩] h (RetP (IxR s h)):=by
 refine Sv_enter Tryz.func183 rfl (by rw[Tryz.ntmps183];rfl) ?_;show Wc Tryz.prog ⟨183,8,none⟩ _ _ _ _ _
 refine zy ?_
 refine Wo_callr rfl rfl rfl rfl rfl Bod.h rfl rfl (indexPri_sv hs) ?_
 rintro v h1 ⟨hE1,n,rfl,hn⟩
 refine zy ?_
 exact Wc_ret (Lv_ret rfl ⟨hE1,n,rfl,hn⟩)
theorem trimL_len:∀(f:Nat)(l:List UInt8),(Lib.trimLeftD f l).length<=l.length
 | 0,l=>Nat.le_refl _
 | f+1,l=>by
  unfold Lib.trimLeftD
  split
  ·exact Nat.zero_le _
  ·split
   ·have:=trimL_len f (l.drop (Lib.decodeL l).2)
    rw[List.length_drop] at this
    omega
   ·exact Nat.le_refl _
theorem trimR_len:∀(f:Nat)(l:List UInt8),(Lib.trimRightD f l).length<=l.length
 | 0,l=>Nat.le_refl _
 | f+1,l=>by
  unfold Lib.trimRightD
  split
  ·exact Nat.zero_le _
  ·split
   ·have:=trimR_len f (l.take (l.length-(Lib.decodeLastL l).2))
    rw[List.length_take] at this
    omega
   ·exact Nat.le_refl _
theorem isSp_pri {c:UInt8}(h:priB c=true):Lib.isSp c=decide (c=32):=by
 have h':=of_decide_eq_true h
 unfold Lib.isSp
 have q:∀n:Nat,n<32->(c == UInt8.ofNat n)=false:=fun n hn=>by
  cases hq:c == UInt8.ofNat n
  ·rfl
  ·have:=eq_of_beq hq
   subst this
   have:(UInt8.ofNat n).toNat=n:=by simp;omega
   omega
 have e:=q 9 (by decide);have e2:=q 10 (by decide);have e3:=q 11 (by decide);have e4:=q 12 (by decide);have e5:=q 13 (by decide)
 have f1:(c == 9)=false:=e
 have f2:(c == 10)=false:=e2
 have f3:(c == 11)=false:=e3
 have f4:(c == 12)=false:=e4
 have f5:(c == 13)=false:=e5
 rw[f1,f2,f3,f4,f5]
 simp
 rfl
theorem trim_same {l:List UInt8}(hp:l.all priB=true)(h0:l≠[]):Lib.trimSpaceD l=l ↔ l.head?≠some 32/\l.getLast?≠some 32:=by
 rw[List.all_eq_true] at hp
 obtain⟨x,t,rfl⟩:=List.exists_cons_of_ne_nil h0
 have hx:=hp x List.mem_cons_self
 have hx':=of_decide_eq_true hx
 by_cases h32:x=32
 ·subst h32
  refine⟨fun e=>?_,fun e=>absurd rfl e.1⟩
  exfalso
  have hl:(Lib.trimSpaceD (32::t)).length<=t.length:=by
   unfold Lib.trimSpaceD
   refine Nat.le_trans (trimR_len _ _) ?_
   rw[show (32::t:List UInt8).length=t.length+1 from rfl,Lib.left_step _ _ _ (by decide)]
   exact trimL_len _ _
  rw[e,List.length_cons] at hl
  omega
 have hns:Lib.isSp x=false:=by rw[isSp_pri hx];exact decide_eq_false h32
 have hleft:Lib.trimLeftD (x::t).length (x::t)=x::t:=Lib.left_stop _ _ _ hns (by omega)
 obtain⟨u,y,e⟩:∃u y,x::t=u++[y]:=⟨_,_,(List.dropLast_concat_getLast (List.cons_ne_nil x t)).symm⟩
 have hy:=hp y (by rw[e];exact List.mem_append_right _ List.mem_cons_self)
 have hy':=of_decide_eq_true hy
 have hgl:(x::t).getLast?=some y:=by rw[e];exact List.getLast?_concat
 rw[hgl]
 by_cases hy32:y=32
 ·subst hy32
  refine⟨fun q=>?_,fun q=>absurd rfl q.2⟩
  exfalso
  have hl:(Lib.trimSpaceD (x::t)).length<=u.length:=by
   unfold Lib.trimSpaceD
   rw[hleft,e,List.length_append,List.length_singleton,Lib.right_step _ _ _ (by decide)]
   exact trimR_len _ _
  rw[q,e,List.length_append,List.length_singleton] at hl
  omega
 ·refine⟨fun _=>⟨fun q=>h32 (Option.some.inj q),fun q=>hy32 (Option.some.inj q)⟩,fun _=>?_⟩
  unfold Lib.trimSpaceD
  rw[hleft,e,List.length_append,List.length_singleton]
  exact Lib.right_stop _ _ _ (by rw[isSp_pri hy];exact decide_eq_false hy32) (by omega)
theorem textB_eq (s:List UInt8):textB s=(decide (1<=s.length/\s.length<=80) && decide (Lib.trimSpaceD s=s) && s.all priB):=by
 have ha:(s.all fun c=>decide (32<=c.toNat/\c.toNat<=126))=s.all priB:=rfl
 unfold textB
 rw[ha]
 by_cases hp:s.all priB=true
 ·rw[hp,Bool.and_true,Bool.and_true]
  by_cases hl:1<=s.length/\s.length<=80
  ·have hne:s≠[]:=by intro e;rw[e] at hl;exact absurd hl.1 (by decide)
   rw[decide_eq_true hl,Bool.true_and,Bool.true_and]
   have:=trim_same hp hne
   rw[Bool.eq_iff_iff]
   simp only[Bool.and_eq_true,Bool.not_eq_true',decide_eq_false_iff_not,decide_eq_true_eq]
   exact this.symm
  ·rw[decide_eq_false hl];simp
 ·have hp':s.all priB=false:=by simpa using hp
  rw[hp'];simp
theorem printed_sv {s:List UInt8}{h:Heap}(hs:Len s)(hL:LibAt h):Sv Tryz.prog 148 [str s] h (RetP fun v h'=>v=.bool (textB s)/\Ext h h'):=by
 rw[textB_eq]
 refine Sv_enter Tryz.func148 rfl (by rw[Tryz.ntmps148];rfl) ?_;show Wc Tryz.prog ⟨148,15,none⟩ _ _ _ _ _
 refine zy ?_
 by_cases hl:(s.length:Int)<1\/80<(s.length:Int)
 ·refine Wo_callV rfl rfl rfl rfl rfl Bod.h rfl rfl (Sv_tt hl (out_sv _ _ _ _)) ?_
  refine zy ?_
  exact Wc_ret (Lv_ret rfl ⟨by rw[decide_eq_false (by omega)];rfl,Ext.refl _⟩)
 refine Wo_callV rfl rfl rfl rfl rfl Bod.h rfl rfl (Sv_ff hl (out_sv _ _ _ _)) ?_
 rw[decide_eq_true (show 1<=s.length/\s.length<=80 by omega),Bool.true_and]
 refine zy ?_
 refine Wo_callV rfl rfl rfl rfl rfl Bod.h rfl rfl (trimAny_sv hs hL) ?_
 refine zy ?_
 by_cases ht:Lib.trimSpaceD s=s
 rotate_left
 ·refine Wo_do rfl rfl rfl rfl (A_tt ht (A_neqStr rfl rfl)) ?_
  refine zy ?_
  exact Wc_ret (Lv_ret rfl ⟨by rw[decide_eq_false ht];rfl,Ext.refl _⟩)
 refine Wo_do rfl rfl rfl rfl (A_ff (fun e=>e ht) (A_neqStr rfl rfl)) ?_
 rw[decide_eq_true ht,Bool.true_and]
 refine zy ?_
 refine Wo_callr rfl rfl rfl rfl rfl Bod.h rfl rfl (indexFuncP_sv hs) ?_
 rintro v h1 ⟨hE1,n,rfl,hn⟩
 refine zy ?_
 refine Wo_do rfl rfl rfl rfl (A_lss rfl rfl) ?_
 refine zy ?_
 refine Wc_ret (Lv_ret rfl ⟨?_,hE1⟩)
 by_cases hp:s.all priB=true
 ·rw[hp,decide_eq_true (hn.2 hp)];rfl
 ·rw[decide_eq_false (fun e=>hp (hn.1 e)),show s.all priB=false by simpa using hp];rfl
end Go.Dw
/- T2: contracts: subtitles: what is wrong, what cannot be read. -/
namespace Go.Dw
open Go Go.Dx Go.Proofs
set_option maxRecDepth 100000
theorem titlesGo_rng {bef:Int}{x:Ttl}{xs:List Ttl}(h:(x.a<0\/199999<x.a)\/(x.b<0\/199999<x.b)):titlesGo bef (x::xs)=7:=by
 show (if _ then _ else _)=_
 rw[if_pos h]
theorem titlesGo_arg {bef:Int}{x:Ttl}{xs:List Ttl}(h:¬((x.a<0\/199999<x.a)\/(x.b<0\/199999<x.b)))(h2:x.b<x.a\/x.a<=bef):titlesGo bef (x::xs)=2:=by
 show (if _ then _ else _)=_
 rw[if_neg h,if_pos h2]
theorem titlesGo_form {bef:Int}{x:Ttl}{xs:List Ttl}(h:¬((x.a<0\/199999<x.a)\/(x.b<0\/199999<x.b)))(h2:¬(x.b<x.a\/x.a<=bef))(h3:textB x.text=false):titlesGo bef (x::xs)=6:=by
 show (if _ then _ else _)=_
 rw[if_neg h,if_neg h2,if_pos h3]
theorem titlesGo_on {bef:Int}{x:Ttl}{xs:List Ttl}(h:¬((x.a<0\/199999<x.a)\/(x.b<0\/199999<x.b)))(h2:¬(x.b<x.a\/x.a<=bef))(h3:textB x.text=true):titlesGo bef (x::xs)=titlesGo x.b xs:=by
 show (if _ then _ else _)=_
 rw[if_neg h,if_neg h2,if_neg (by rw[h3];simp)]
theorem titlesErr_long {l:List Ttl}(h:40<l.length):titlesErr l=3:=by unfold titlesErr;rw[if_pos h]
theorem titlesErr_go {l:List Ttl}(h:¬40<l.length):titlesErr l=titlesGo (-1) l:=by unfold titlesErr;rw[if_neg h]
theorem strange_sv {l:List Ttl}{al:Option Addr}{cl:Nat}{h:Heap}(hl:RowsAt 3 TtlR h al l)(hF:∀x∈l,x.Fit)(hL:Len l)(hLib:LibAt h):Sv Tryz.prog 91 [.slice al l.length cl] h (RetP fun v h'=>v=i64 (titlesErr l)/\Ext h h'):=by
 refine Sv_enter Tryz.func91 rfl (by rw[Tryz.ntmps91];rfl) ?_;show Wc Tryz.prog ⟨91,44,none⟩ _ _ _ _ _
 refine zy ?_
 refine Wo_dec rfl rfl rfl rfl (A_gtr rfl rfl) (fun h1=>?_) (fun h1=>?_)
 ·refine zy ?_
  exact Wc_ret (Lv_ret rfl ⟨by rw[titlesErr_long (by omega)];rfl,Ext.refl _⟩)
 rw[titlesErr_go (by omega)]
 refine zy ?_
 refine Wc_loop (fun (s:Nat×Int) m ds h'=>ds=[]/\Ext h h'/\s.1<=l.length/\titlesGo (-1) l=titlesGo s.2 (l.drop s.1)/\AllK m [(3,i64 s.2),(9,.slice al l.length cl),(10,i64 l.length),(11,i64 s.1)]) (fun s=>l.length-s.1) (0,-1) ?_ ?_
 ·exact⟨rfl,Ext.refl _,Nat.zero_le _,by rw[List.drop_zero],rfl,rfl,rfl,rfl,trivial⟩
 rintro⟨k,bef⟩ m ds h2 ⟨rfl,hE2,hk,hgo,hall⟩
 simp only at hk hgo hall
 refine Wc.le ?_ (Le.kn hall)
 refine zy ?_
 refine Wo_dec rfl rfl rfl rfl (A_lss rfl rfl) (fun h3=>?_) (fun h3=>?_)
 rotate_left
 ·have hk2:k=l.length:=by omega
  subst hk2
  rw[hgo,List.drop_length]
  refine zy ?_
  exact Wc_ret (Lv_ret rfl ⟨rfl,hE2⟩)
 have hk':k<l.length:=by simpa using h3
 obtain⟨b,o,oa,rfl,row,hrow,hr⟩:=hl k hk'
 have hFx:=hF _ (List.getElem_mem hk')
 rw[List.drop_eq_getElem_cons hk'] at hgo
 rw[hgo]
 generalize l[k]=x at *
 obtain rfl:=hr
 replace hrow:=hE2.row hrow
 refine zy ?_
 refine Wo_do rfl rfl rfl rfl (A_ix Und.h Tsz.h rfl rfl) ?_
 refine zy ?_
 refine Wo_allocStore rfl rfl Zr.h Tsz.h rfl (fun _=>rfl) rfl rfl rfl fun h4 hE4 hW4 hg4 hn4=>?_
 have hE:=hE2.trans hE4
 generalize h2.nx=b2 at *
 clear hrow hE2 hE4 hn4
 clear h2
 refine zy ?_
 refine Wo_callP rfl rfl rfl rfl rfl Bod.h rfl rfl (out_sv _ _ _ _) (fun h5=>?_) (fun h5=>?_)
 ·replace h5:=of_decide_eq_true h5
  refine zy ?_
  exact Wc_ret (Lv_ret rfl ⟨by rw[titlesGo_rng (.inl h5)];rfl,hE⟩)
 replace h5:=of_decide_eq_false h5
 refine zy ?_
 refine Wo_callP rfl rfl rfl rfl rfl Bod.h rfl rfl (out_sv _ _ _ _) (fun h6=>?_) (fun h6=>?_)
 ·replace h6:=of_decide_eq_true h6
  refine zy ?_
  exact Wc_ret (Lv_ret rfl ⟨by rw[titlesGo_rng (.inr h6)];rfl,hE⟩)
 replace h6:=of_decide_eq_false h6
 have h56:¬((x.a<0\/199999<x.a)\/(x.b<0\/199999<x.b)):=fun e=>e.elim h5 h6
 refine zy ?_
 refine Wo_dec rfl rfl rfl rfl (A_gtr rfl rfl) (fun h7=>?_) (fun h7=>?_)
 ·refine zy ?_
  exact Wc_ret (Lv_ret rfl ⟨by rw[titlesGo_arg h56 (.inl h7)];rfl,hE⟩)
 refine zy ?_
 refine Wo_dec rfl rfl rfl rfl (A_leq rfl rfl) (fun h8=>?_) (fun h8=>?_)
 ·refine zy ?_
  exact Wc_ret (Lv_ret rfl ⟨by rw[titlesGo_arg h56 (.inr h8)];rfl,hE⟩)
 have h78:¬(x.b<x.a\/x.a<=bef):=fun e=>e.elim h7 h8
 refine zy ?_
 refine Wo_callB rfl rfl rfl rfl rfl Bod.h rfl rfl (printed_sv hFx.3 (hLib.ext hE)) (fun h9 h10 hE10=>?_) (fun h9 h10 hE10=>?_)
 ·rw[titlesGo_on h56 h78 h9]
  replace hg4:=hE10.get hg4
  refine zy ?_
  exact⟨(k+1,x.b),(by show l.length-(k+1)<l.length-k;omega),rfl,hE.trans hE10,hk',rfl,rfl,rfl,rfl,rfl,trivial⟩
 ·refine zy ?_
  exact Wc_ret (Lv_ret rfl ⟨by rw[titlesGo_form h56 h78 h9];rfl,hE.trans hE10⟩)
def befT (l:List Ttl):Nat->Int
 | 0=>-1
 | k+1=>match l[k]? with|some x=>x.b|none=>-1
theorem titles_each {l:List Ttl}(h:titlesErr l=0):l.length<=40/\(∀x∈l,0<=x.a/\x.a<=x.b/\x.b<=199999/\textB x.text=true)/\l.Pairwise fun x y=>x.b<y.a:=by
 unfold titlesErr at h
 split at h
 ·cases h
 obtain⟨h1,h2⟩:=titlesGo_ok h
 exact⟨by omega,fun x hx=>(h1 x hx).2,h2⟩
def unreadK (l:List Ttl)(speed rate:Int)(k:Nat):List Nat:=(List.range k).filter fun i=>match l[i]? with|some x=>unreadB speed rate x|none=>false
abbrev natV (n:Nat):Value:=i64 (n:Int)
def unErr (l:List Ttl)(speed rate:Int):Int:=if titlesErr l≠0 then titlesErr l else if (speed<1\/60<speed)\/(rate<1\/60<rate) then 7 else 0
def UnR (l:List Ttl)(speed rate:Int)(h:Heap)(v:Value)(h':Heap):Prop:=Ext h h'/\((¬unErr l speed rate=0/\v=.tuple ⟨[.slice none 0 0,i64 (unErr l speed rate)]⟩)\/(unErr l speed rate=0/\∃va,v=.tuple ⟨[va,i64 0]⟩/\FreshSl h h' va 3 1 ((unreadS l speed rate).map natV) (unreadS l speed rate).length))
end Go.Dw
/- T3: contracts: subtitles as they stand after cuts; lists compared. -/
namespace Go.Dw
open Go Go.Dx Go.Proofs
set_option maxRecDepth 100000
def ttVs (x:Ttl):List Value:=[i64 x.a,i64 x.b,str x.text]
theorem ttRows_len (l:List Ttl):(l.flatMap ttVs).length=l.length*3:=by
 induction l with
 | nil=>rfl
 | cons x l ih=>rw[List.flatMap_cons,List.length_append,ih,List.length_cons];show 3+_=_;omega
theorem ttRows_at {h0 h:Heap}{v:Value}{P:List Ttl}(hF:FreshSl h0 h v 75 3 (P.flatMap ttVs) P.length):∃a c,v=.slice a P.length c/\RowsAt 3 TtlR h a P:=by
 rcases hF with ⟨rfl,_,h0⟩|⟨b,sp,op,rfl,hg,_⟩
 ·rw[h0]
  exact⟨none,0,rfl,fun i hi=>absurd hi (by omega)⟩
 ·refine⟨some ⟨b,0,sp⟩,P.length,rfl,fun i hi=>⟨b,0,sp,rfl,_,rowAt_cells hg ?_,rfl⟩⟩
  rw[Nat.zero_add]
  exact cut_flat (f:=ttVs) (k:=3) hi fun _ _=>rfl
theorem ttRows_set (R:List Ttl)(p q m:Int)(tx:List UInt8):((R++[(⟨p,q,tx⟩:Ttl)]).flatMap ttVs).set (R.length*3+1) (i64 m)=(R++[(⟨p,m,tx⟩:Ttl)]).flatMap ttVs:=by
 rw[List.flatMap_append,List.flatMap_append,List.set_append_right _ _ (by rw[ttRows_len];omega),ttRows_len,show R.length*3+1-R.length*3=1 by omega]
 rfl
theorem cutGo_vals:∀{l:List Cut}{n:Int},(cutGo n l).2=0\/(cutGo n l).2=7\/(cutGo n l).2=2
 | [],_=>.inl rfl
 | c::cs,n=>by
  by_cases h:(c.a<0\/n-1<c.a)\/(c.b<0\/n-1<c.b)
  ·rw[cutGo_bad h];exact .inr (.inl rfl)
  ·by_cases h2:c.b<c.a
   ·rw[cutGo_arg h h2];exact .inr (.inr rfl)
   ·rw[cutGo_on h h2];exact cutGo_vals
theorem cutS_ne4 {n:Int}{cs:List Cut}:(cutS n cs).2≠4:=by
 unfold cutS
 split
 ·decide
 ·split
  ·decide
  ·rcases cutGo_vals (l:=cs) (n:=n) with e|e|e <;> rw[e] <;> decide
theorem after0_bad {n:Int}{cs:List Cut}(h:¬(cutS n cs).2=0):(afterV n cs 0).2=(cutS n cs).2:=by unfold afterV;rw[if_pos h]
theorem after_at {n i:Int}{cs:List Cut}(h:(cutS n cs).2=0)(h0:0<=i)(h1:i<n):afterV n cs i=match afterC cs i with|none=>((0:Int),(4:Int))|some m=>(m,(0:Int)):=by
 rw[afterV_on h,if_neg (by omega)];rfl
theorem after0_ok {n:Int}{cs:List Cut}(h:(cutS n cs).2=0):(afterV n cs 0).2=0\/(afterV n cs 0).2=4:=by
 obtain⟨h1,-⟩:=cutS_ok h
 rw[after_at h (Int.le_refl 0) (by omega)]
 split
 ·exact .inr rfl
 ·exact .inl rfl
def retErr (n:Int)(cs:List Cut)(l:List Ttl):Int:=if (cutS n cs).2≠0 then (cutS n cs).2 else if titlesErr l≠0 then titlesErr l else if (l.any fun x=>decide (n<=x.b))=true then 7 else 0
theorem ret_ok {n:Int}{cs:List Cut}{l:List Ttl}(h:retErr n cs l=0):(cutS n cs).2=0/\titlesErr l=0/\∀x∈l,x.b<n:=by
 unfold retErr at h
 split at h
 ·rename_i h1;exact absurd h h1
 rename_i h1
 split at h
 ·rename_i h2;exact absurd h h2
 rename_i h2
 split at h
 ·cases h
 rename_i h3
 refine⟨Decidable.not_not.1 h1,Decidable.not_not.1 h2,fun x hx=>?_⟩
 have:¬n<=x.b:=fun e=>h3 (List.any_eq_true.2 ⟨x,hx,decide_eq_true e⟩)
 omega
theorem pair_last:∀{l:List Ttl},l.Pairwise (fun x y=>x.b<y.a)->(∀x∈l,x.a<=x.b)->∀{i:Nat}(hi:i<l.length),l[i].b<=(l[l.length-1]'(by omega)).b:=by
 intro l hp hv i hi
 rcases Nat.lt_or_ge i (l.length-1) with g|g
 ·have h1:=List.pairwise_iff_getElem.1 hp i (l.length-1) hi (by omega) g
  have h2:=hv _ (List.getElem_mem (show l.length-1<l.length by omega))
  omega
 ·have:i=l.length-1:=by omega
  subst this
  exact Int.le_refl _
theorem last_any {n:Int}{l:List Ttl}(hp:l.Pairwise (fun x y=>x.b<y.a))(hv:∀x∈l,x.a<=x.b)(h0:0<l.length):(l.any fun x=>decide (n<=x.b))=decide (n<=(l[l.length-1]'(by omega)).b):=by
 rw[Bool.eq_iff_iff,decide_eq_true_eq,List.any_eq_true]
 constructor
 ·rintro⟨x,hx,e⟩
  obtain⟨i,hi,rfl⟩:=List.getElem_of_mem hx
  have:=pair_last hp hv hi
  have e':=of_decide_eq_true e
  omega
 ·intro e
  exact⟨_,List.getElem_mem (by omega),decide_eq_true e⟩
def curT (cs:List Cut)(x:Ttl)(f:Nat):List Ttl:=if cntC cs x.a.toNat<cntC cs f then [⟨(cntC cs x.a.toNat:Nat),(cntC cs f:Nat)-1,x.text⟩] else []
theorem curT_0 (cs:List Cut)(x:Ttl):curT cs x x.a.toNat=[]:=by unfold curT;rw[if_neg (Nat.lt_irrefl _)]
theorem curT_end {cs:List Cut}{x:Ttl}{f:Nat}(hf:f=x.b.toNat+1):curT cs x f=(retime1 cs x).toList:=by
 subst hf
 unfold curT retime1
 split <;> rfl
theorem retimeS_snoc (cs:List Cut)(l:List Ttl)(x:Ttl):retimeS cs (l++[x])=retimeS cs l++(retime1 cs x).toList:=by
 unfold retimeS
 rw[List.filterMap_append]
 cases h:retime1 cs x <;> simp[h]
theorem retimeS_len (cs:List Cut)(l:List Ttl):(retimeS cs l).length<=l.length:=List.length_filterMap_le _ _
def RetR (n:Int)(cs:List Cut)(l:List Ttl)(h:Heap)(v:Value)(h':Heap):Prop:=Ext h h'/\((¬retErr n cs l=0/\v=.tuple ⟨[.slice none 0 0,i64 (retErr n cs l)]⟩)\/(retErr n cs l=0/\∃va,v=.tuple ⟨[va,i64 0]⟩/\FreshSl h h' va 75 3 ((retimeS cs l).flatMap ttVs) (retimeS cs l).length))
set_option maxHeartbeats 4000000 in
theorem scRetime_sv {n:Int}{cs:List Cut}{l:List Ttl}{ac al:Option Addr}{cc cl:Nat}{h:Heap}(hI:I64 n)(hcs:RowsAt 2 CutR h ac cs)(hcF:∀c∈cs,c.Fit)(hcL:Len cs)(hl:RowsAt 3 TtlR h al l)(hF:∀x∈l,x.Fit)(hL:Len l)(hLib:LibAt h):Sv Tryz.prog 28 [i64 n,.slice ac cs.length cc,.slice al l.length cl] h (RetP (RetR n cs l h)):=by
 refine Sv_wf fun hw=>?_
 refine Sv_enter Tryz.func28 rfl (by rw[Tryz.ntmps28];rfl) ?_;show Wc Tryz.prog ⟨28,89,none⟩ _ _ _ _ _
 refine zy ?_
 refine Wo_callE rfl rfl rfl rfl rfl Bod.h rfl rfl (after_sv hI (by decide) hcs hcF hcL) fun h1 hE1=>?_
 by_cases hc0:(cutS n cs).2=0
 rotate_left
 ·have e:retErr n cs l=(cutS n cs).2:=by unfold retErr;rw[if_pos hc0]
  have e4:=cutS_ne4 (n:=n) (cs:=cs)
  rw[after0_bad hc0]
  generalize (cutS n cs).2=q at *
  refine zy ?_
  refine Wo_do rfl rfl rfl rfl (A_tt hc0 (A_neq rfl rfl)) ?_
  refine zy ?_
  refine Wo_do rfl rfl rfl rfl (A_tt e4 (A_neq rfl rfl)) ?_
  refine zy ?_
  exact Wc_ret (Lv_ret rfl ⟨hE1,.inl ⟨by rw[e];exact hc0,by rw[e];rfl⟩⟩)
 have hafter:=fun {i:Nat} (h1:(i:Int)<n)=>after_at (i:=(i:Int)) hc0 (by omega) h1
 have h04:=after0_ok hc0
 obtain⟨n1,n2,n3,hok⟩:=cutS_ok hc0
 have hce:=cuts_each hok
 have er:retErr n cs l=if titlesErr l≠0 then titlesErr l else if (l.any fun x=>decide (n<=x.b))=true then 7 else 0:=by unfold retErr;rw[if_neg (fun e=>e hc0)]
 rcases h04 with e04|e04
 ·rw[e04]
  refine zy ?_
  refine Wo_do rfl rfl rfl rfl (A_ff (by decide) (A_neq rfl rfl)) ?_
  refine zy ?_
  refine Wo_callE rfl rfl rfl rfl rfl Bod.h rfl rfl (strange_sv (RowsAt.ext (R:=TtlR) (fun x _=>x) hl hE1) hF hL (hLib.ext hE1)) fun h2 hE2=>?_
  have hE:=hE1.trans hE2
  by_cases ht:titlesErr l=0
  rotate_left
  ·rw[if_pos ht] at er
   generalize titlesErr l=q at *
   refine zy ?_
   refine Wo_do rfl rfl rfl rfl (A_tt ht (A_neq rfl rfl)) ?_
   refine zy ?_
   exact Wc_ret (Lv_ret rfl ⟨hE,.inl ⟨by rw[er];exact ht,by rw[er];rfl⟩⟩)
  rw[if_neg (fun e=>e ht)] at er
  obtain⟨hn40,hx,hpw⟩:=titles_each ht
  rw[ht]
  refine zy ?_
  refine Wo_do rfl rfl rfl rfl (A_ff (by decide) (A_neq rfl rfl)) ?_
  refine zy ?_
  by_cases hl0:0<l.length
  ·have hla:=last_any (n:=n) hpw (fun x h=>(hx x h).2.1) hl0
   obtain⟨bl,ol,oal,rfl,rowl,hrl,hrr⟩:=hl (l.length-1) (by omega)
   have zl:cellAt h2 bl (ol+(l.length-1)*3+1)=some (i64 (l[l.length-1]'(by omega)).b):=hE.cell (cell_of_row hrl (by obtain rfl:=hrr;rfl))
   rw[hla] at er
   generalize (l[l.length-1]'(by omega)).b=lb at *
   refine Wo_do rfl rfl rfl rfl (A_tt (by omega) (A_gtr rfl rfl)) ?_
   refine zy ?_
   refine Wo_do rfl rfl rfl rfl (A_indexAddr (k:=l.length-1) Und.h Tsz.h rfl rfl (by omega) (by omega)) ?_
   refine zy ?_
   by_cases hge:n<=lb
   ·rw[if_pos (decide_eq_true hge)] at er
    refine Wo_do rfl rfl rfl rfl (A_tt hge (A_geq rfl rfl)) ?_
    refine zy ?_
    exact Wc_ret (Lv_ret rfl ⟨hE,.inl ⟨by rw[er];decide,by rw[er];rfl⟩⟩)
   rw[if_neg (by rw[decide_eq_false hge];simp)] at er
   refine Wo_do rfl rfl rfl rfl (A_ff hge (A_geq rfl rfl)) ?_
   refine zy ?_
   have hbn:∀x∈l,x.b<n:=(ret_ok er).2.2
   refine Wc_wf fun hw2=>?_
   refine Wc_loop (fun (s:Nat×Value) m ds h'=>ds=[]/\s.1<=l.length/\Ext h2 h'/\Own h2 h' [slI h2 s.2 75 3 ((retimeS cs (l.take s.1)).flatMap ttVs) (retimeS cs (l.take s.1)).length] ∧
     AllK m [(0,i64 n),(1,.slice ac cs.length cc),(6,s.2),(46,.slice (some ⟨bl,ol,oal⟩) l.length cl),(47,i64 l.length),(48,i64 s.1)]) (fun s=>l.length-s.1) (0,.slice none 0 0) ?_ ?_
   ·exact⟨rfl,Nat.zero_le _,Ext.refl _,(Own.nil h2 h2).nilSl 75 3,rfl,rfl,rfl,rfl,rfl,rfl,trivial⟩
   rintro⟨k,v⟩ m ds h3 ⟨rfl,hk,hE3,hO3,hall⟩
   simp only at hk hO3 hall
   refine Wc_wf fun hw3=>?_
   refine Wc.le ?_ (Le.kn hall)
   refine zy ?_
   refine Wo_dec rfl rfl rfl rfl (A_lss rfl rfl) (fun h4=>?_) (fun h4=>?_)
   rotate_left
   ·have hk2:k=l.length:=by omega
    subst hk2
    rw[List.take_length] at hO3
    have q1:=hO3.p1
    have hb1:=hE.2.1
    refine zy ?_
    exact Wc_ret (Lv_ret rfl ⟨hE.trans hE3,.inr ⟨er,v,rfl,FreshSl.base q1 hb1⟩⟩)
   have hk':k<l.length:=by simpa using h4
   obtain⟨b0,o0,oa0,e0,row,hrow,hr'⟩:=hl k hk'
   cases e0
   obtain⟨x1,x2,x3,-⟩:=hx _ (List.getElem_mem hk')
   have x4:=hbn _ (List.getElem_mem hk')
   have htk:l.take (k+1)=l.take k++[l[k]]:=by rw[List.take_add_one,List.getElem?_eq_getElem hk'];rfl
   have hrs:=retimeS_snoc cs (l.take k) l[k]
   rw[<-htk] at hrs
   have hrl0:=retimeS_len cs (l.take k)
   rw[List.length_take] at hrl0
   generalize l[k]=x at *
   obtain rfl:=hr'
   replace hrow:=(hE.trans hE3).row hrow
   generalize retimeS cs (l.take k)=R at *
   refine zy ?_
   refine Wo_do rfl rfl rfl rfl (A_ix Und.h Tsz.h rfl rfl) ?_
   refine zy ?_
   refine Wo_allocStore rfl rfl Zr.h Tsz.h rfl (fun _=>rfl) rfl rfl rfl fun h5 hE5 hW5 hg5 hn5=>?_
   have hO5:=(hO3.newCe hw3 hE3.2.1 hE5 hg5 (Nat.le_refl _))
   replace hE3:=hE3.trans hE5
   generalize h3.nx=b9 at *
   clear hrow hn5 hE5 hO3 hw3
   clear h3
   refine zy ?_
   have hxa:(x.a.toNat:Int)=x.a:=Int.toNat_of_nonneg x1
   refine Wc.mono (Q:=fun z m' ds' h'=>z=.exit 2/\ds'=[]/\Ext h2 h'/\∃v',Own h2 h' [ceI b9 [i64 x.a,i64 x.b,str x.text] 75 false,slI h2 v' 75 3 ((R++curT cs x (x.b.toNat+1)).flatMap ttVs) (R++curT cs x (x.b.toNat+1)).length]/\AllK m' [(0,i64 n),(1,.slice ac cs.length cc),(6,v'),(46,.slice (some ⟨bl,ol,oal⟩) l.length cl),(47,i64 l.length),(48,i64 k)])
    (Wc_loop (fun (s:Nat×Value) m ds h'=>ds=[]/\x.a.toNat<=s.1/\s.1<=x.b.toNat+1/\Ext h2 h'/\Own h2 h' [ceI b9 [i64 x.a,i64 x.b,str x.text] 75 false,slI h2 s.2 75 3 ((R++curT cs x s.1).flatMap ttVs) (R++curT cs x s.1).length]/\AllK m [(0,i64 n),(1,.slice ac cs.length cc),(6,s.2),(9,.pointer (some ⟨b9,0,none⟩)),(10,i64 ((cntC cs s.1:Int)-cntC cs x.a.toNat)),(11,i64 s.1),(46,.slice (some ⟨bl,ol,oal⟩) l.length cl),(47,i64 l.length),(48,i64 k)])
     (fun s=>x.b.toNat+1-s.1) (x.a.toNat,v) ?_ ?_) ?_
   ·refine⟨rfl,Nat.le_refl _,by show x.a.toNat<=x.b.toNat+1;omega,hE3,?_,rfl,rfl,rfl,rfl,?_,?_,rfl,rfl,rfl,trivial⟩
    ·rw[curT_0,List.append_nil];exact hO5
    ·rw[Int.sub_self];rfl
    ·rw[hxa];rfl
   rotate_left
   ·rintro _ m' ds' h6 ⟨rfl,rfl,hE6,v',hO6,hall⟩
    show Wc _ _ _ _ _ _ _
    refine Wc.le ?_ (Le.kn hall)
    rw[curT_end rfl,<-hrs] at hO6
    refine zy ?_
    exact⟨(k+1,v'),(by show l.length-(k+1)<l.length-k;omega),rfl,hk',hE6,hO6.tail,rfl,rfl,rfl,rfl,rfl,rfl,trivial⟩
   clear hE3 hO5 hW5 hall hg5
   clear h5
   rintro⟨f,u⟩ m ds h5 ⟨rfl,hf1,hf2,hE5,hO5,hall⟩
   simp only at hf1 hf2 hO5 hall
   refine Wc_wf fun hw5=>?_
   have hg5:h5.get b9=some (.cells [i64 x.a,i64 x.b,str x.text] 75 false):=hO5.p1
   have hcm:=cntC_mono cs hf1
   have hcs1:=cntC_succ cs f
   have hci:=fun {m:Int}=>after_cnt hce (i:=f) (n:=m)
   refine Wc.le ?_ (Le.kn hall)
   refine zy ?_
   refine Wo_dec rfl rfl rfl rfl (A_leq rfl rfl) (fun h6=>?_) (fun h6=>?_)
   rotate_left
   ·have hf3:f=x.b.toNat+1:=by omega
    subst hf3
    refine zy ?_
    exact⟨rfl,rfl,hE5,u,hO5,rfl,rfl,rfl,rfl,rfl,rfl,trivial⟩
   have hfn:(f:Int)<n:=by omega
   have haf:=after_sv hI (show I64 (f:Int) from⟨by omega,by omega⟩) (RowsAt.ext (R:=CutR) (fun x _=>x) hcs (hE.trans hE5)) hcF hcL (cc:=cc)
   rw[hafter hfn] at haf
   cases hA:afterC cs (f:Int) with
   | none =>
    rw[hA] at haf hcs1
    have hcs2:cntC cs (f+1)=cntC cs f:=hcs1
    have hcu:curT cs x (f+1)=curT cs x f:=by unfold curT;rw[hcs2]
    refine zy ?_
    refine Wo_callE rfl rfl rfl rfl rfl Bod.h rfl rfl (by exact haf) fun h7 hE7=>?_
    refine zy ?_
    refine Wo_do rfl rfl rfl rfl (A_tt (by decide) (A_neq rfl rfl)) ?_
    refine zy ?_
    refine⟨(f+1,u),(by show x.b.toNat+1-(f+1)<x.b.toNat+1-f;omega),rfl,by show _<=f+1;omega,by show f+1<=_;omega,hE5.trans hE7,?_,rfl,rfl,rfl,rfl,?_,rfl,rfl,rfl,rfl,trivial⟩
    ·rw[hcu];exact hO5.ext hE7
    ·rw[hcs2];rfl
   | some m =>
    rw[hA] at haf hcs1
    have hcs2:cntC cs (f+1)=cntC cs f+1:=hcs1
    have hm:=hci hA
    have hcle:cntC cs f<=f:=by
     unfold cntC
     have:=List.length_filter_le (fun j:Nat=>(afterC cs (j:Int)).isSome) (List.range f)
     rwa [List.length_range] at this
    refine zy ?_
    refine Wo_callE rfl rfl rfl rfl rfl Bod.h rfl rfl (by exact haf) fun h7 hE7=>?_
    have hO7:=hO5.ext hE7
    have hE57:=hE5.trans hE7
    have g7:=hE7.get hg5
    clear haf
    refine zy ?_
    refine Wo_do rfl rfl rfl rfl (A_ff (by exact fun e=>e rfl) (A_neq rfl rfl)) ?_
    refine zy ?_
    by_cases hz:(cntC cs f:Int)-cntC cs x.a.toNat=0
    ·have hcu:curT cs x f=[]:=by unfold curT;rw[if_neg (by omega)]
     have hcu2:curT cs x (f+1)=[⟨(cntC cs x.a.toNat:Nat),m,x.text⟩]:=by
      unfold curT
      rw[if_pos (by omega),hcs2,hm]
      congr 2
      omega
     have hma:m=(cntC cs x.a.toNat:Nat):=by omega
     rw[hcu,List.append_nil] at hO7
     refine Wo_do rfl rfl rfl rfl (A_tt hz (A_eql rfl rfl)) ?_
     refine zy ?_
     refine Wo_bs rfl rfl Und.h Tsz.h Zr.h rfl rfl rfl rfl rfl fun h8 hE8 hW8 hg8 hn8=>?_
     have hrl:(R++[(⟨m,0,x.text⟩:Ttl)]).length=R.length+1:=by simp
     have hrm:(R++[(⟨m,0,x.text⟩:Ttl)]).flatMap ttVs=R.flatMap ttVs++[i64 m,i64 0,str x.text]:=by rw[List.flatMap_append];rfl
     refine Wo_appendO (k:=1) (l:=[i64 m,i64 0,str x.text]) hw2 (hE57.trans hE8) rfl rfl rfl rfl rfl Und.h inferInstance rfl rfl ((hO7.ext hE8).pick 1 rfl) (asrc_row Und.h (by intro k;simp) (rowAt_cells hg8 rfl)) rfl rfl (by omega) (by omega) fun va ha hWa hOa hEa=>?_
     rw[<-hrl,<-hrm] at hOa
     obtain⟨bu,spu,opu,rfl,gu,-,-⟩:=FreshSl.blk (show FreshSl h2 ha va 75 3 _ _ from hOa.p1) (by rw[hrl];exact Nat.succ_pos _)
     have hset:=ttRows_set R m 0 m x.text
     refine zy ?_
     refine Wo_do rfl rfl rfl rfl (A_indexAddr (k:=R.length) Und.h Tsz.h rfl rfl (by rw[hrl];omega) (by rw[hrl];omega)) ?_
     refine zy ?_
     refine Wo_store rfl Tsz.h rfl rfl gu rfl rfl (by exact lay_one (by rw[ttRows_len,hrl];omega)) fun hb hUb=>?_
     rw[Nat.zero_add,hset] at hUb
     obtain⟨hOb,hEb⟩:=hOa.setSlK hWa hEa hw2 hUb (by rw[ttRows_len,ttRows_len];simp)
     have hOc:=hOb.unpick 1 (Nat.le_of_ble_eq_true rfl)
     refine zy ?_
     refine⟨(f+1,_),(by show x.b.toNat+1-(f+1)<x.b.toNat+1-f;omega),rfl,by show _<=f+1;omega,by show f+1<=_;omega,hEb,?_,rfl,rfl,rfl,rfl,?_,rfl,rfl,rfl,rfl,trivial⟩
     ·rw[hcu2]
      simp only[List.length_append,List.length_singleton] at hOc ⊢
      rw[<-hma]
      exact hOc
     ·rw[hcs2,show ((cntC cs f+1:Nat):Int)-cntC cs x.a.toNat=(cntC cs f:Int)-cntC cs x.a.toNat+1 by omega];rfl
    ·have hcu:curT cs x f=[⟨(cntC cs x.a.toNat:Nat),(cntC cs f:Nat)-1,x.text⟩]:=by unfold curT;rw[if_pos (by omega)]
     have hcu2:curT cs x (f+1)=[⟨(cntC cs x.a.toNat:Nat),m,x.text⟩]:=by
      unfold curT
      rw[if_pos (by omega),hcs2,hm]
      congr 2
      omega
     rw[hcu] at hO7
     have hOa:=hO7.pick 1 rfl
     have hrl:(R++[(⟨(cntC cs x.a.toNat:Nat),(cntC cs f:Nat)-1,x.text⟩:Ttl)]).length=R.length+1:=by simp
     obtain⟨bu,spu,opu,rfl,gu,-,-⟩:=FreshSl.blk (show FreshSl h2 h7 u 75 3 _ _ from hOa.p1) (by rw[hrl];exact Nat.succ_pos _)
     have hset:=ttRows_set R (cntC cs x.a.toNat:Nat) ((cntC cs f:Nat)-1) m x.text
     refine Wo_do rfl rfl rfl rfl (A_ff hz (A_eql rfl rfl)) ?_
     refine Wo_wf fun hw7=>?_
     refine zy ?_
     refine Wo_do rfl rfl rfl rfl (A_indexAddr (k:=R.length) Und.h Tsz.h rfl rfl (by rw[hrl];omega) (by rw[hrl];omega)) ?_
     refine zy ?_
     refine Wo_store rfl Tsz.h rfl rfl gu rfl rfl (by exact lay_one (by rw[ttRows_len,hrl];omega)) fun hb hUb=>?_
     rw[Nat.zero_add,hset] at hUb
     obtain⟨hOb,hEb⟩:=hOa.setSlK hw7 hE57 hw2 hUb (by rw[ttRows_len,ttRows_len];simp)
     have hOc:=hOb.unpick 1 (Nat.le_of_ble_eq_true rfl)
     refine zy ?_
     refine⟨(f+1,_),(by show x.b.toNat+1-(f+1)<x.b.toNat+1-f;omega),rfl,by show _<=f+1;omega,by show f+1<=_;omega,hEb,?_,rfl,rfl,rfl,rfl,?_,rfl,rfl,rfl,rfl,trivial⟩
     ·rw[hcu2]
      simp only[List.length_append,List.length_singleton] at hOc ⊢
      exact hOc
     ·rw[hcs2,show ((cntC cs f+1:Nat):Int)-cntC cs x.a.toNat=(cntC cs f:Int)-cntC cs x.a.toNat+1 by omega];rfl
  ·have hle:l=[]:=List.eq_nil_of_length_eq_zero (by omega)
   subst hle
   have er0:retErr n cs []=0:=er
   refine Wo_do rfl rfl rfl rfl (A_ff (by omega) (A_gtr rfl rfl)) ?_
   refine zy ?_
   refine Wc_loop (fun (_:Unit) m ds h'=>ds=[]/\h2=h'/\AllK m [(6,.slice none 0 0),(47,i64 0),(48,i64 0)]) (fun _=>0) () ⟨rfl,rfl,rfl,rfl,rfl,trivial⟩ ?_
   rintro _ m ds h' ⟨rfl,rfl,hall⟩
   refine Wc.le ?_ (Le.kn hall)
   refine zy ?_
   refine Wo_do rfl rfl rfl rfl (A_ff (by decide) (A_lss rfl rfl)) ?_
   refine zy ?_
   exact Wc_ret (Lv_ret rfl ⟨hE,.inr ⟨er0,.slice none 0 0,rfl,FreshSl.nil _ _ _ _⟩⟩)
 ·rw[e04]
  refine zy ?_
  refine Wo_do rfl rfl rfl rfl (A_tt (by decide) (A_neq rfl rfl)) ?_
  refine zy ?_
  refine Wo_do rfl rfl rfl rfl (A_ff (by decide) (A_neq rfl rfl)) ?_
  refine zy ?_
  refine Wo_callE rfl rfl rfl rfl rfl Bod.h rfl rfl (strange_sv (RowsAt.ext (R:=TtlR) (fun x _=>x) hl hE1) hF hL (hLib.ext hE1)) fun h2 hE2=>?_
  have hE:=hE1.trans hE2
  by_cases ht:titlesErr l=0
  rotate_left
  ·rw[if_pos ht] at er
   generalize titlesErr l=q at *
   refine zy ?_
   refine Wo_do rfl rfl rfl rfl (A_tt ht (A_neq rfl rfl)) ?_
   refine zy ?_
   exact Wc_ret (Lv_ret rfl ⟨hE,.inl ⟨by rw[er];exact ht,by rw[er];rfl⟩⟩)
  rw[if_neg (fun e=>e ht)] at er
  obtain⟨hn40,hx,hpw⟩:=titles_each ht
  rw[ht]
  refine zy ?_
  refine Wo_do rfl rfl rfl rfl (A_ff (by decide) (A_neq rfl rfl)) ?_
  refine zy ?_
  by_cases hl0:0<l.length
  ·have hla:=last_any (n:=n) hpw (fun x h=>(hx x h).2.1) hl0
   obtain⟨bl,ol,oal,rfl,rowl,hrl,hrr⟩:=hl (l.length-1) (by omega)
   have zl:cellAt h2 bl (ol+(l.length-1)*3+1)=some (i64 (l[l.length-1]'(by omega)).b):=hE.cell (cell_of_row hrl (by obtain rfl:=hrr;rfl))
   rw[hla] at er
   generalize (l[l.length-1]'(by omega)).b=lb at *
   refine Wo_do rfl rfl rfl rfl (A_tt (by omega) (A_gtr rfl rfl)) ?_
   refine zy ?_
   refine Wo_do rfl rfl rfl rfl (A_indexAddr (k:=l.length-1) Und.h Tsz.h rfl rfl (by omega) (by omega)) ?_
   refine zy ?_
   by_cases hge:n<=lb
   ·rw[if_pos (decide_eq_true hge)] at er
    refine Wo_do rfl rfl rfl rfl (A_tt hge (A_geq rfl rfl)) ?_
    refine zy ?_
    exact Wc_ret (Lv_ret rfl ⟨hE,.inl ⟨by rw[er];decide,by rw[er];rfl⟩⟩)
   rw[if_neg (by rw[decide_eq_false hge];simp)] at er
   refine Wo_do rfl rfl rfl rfl (A_ff hge (A_geq rfl rfl)) ?_
   refine zy ?_
   have hbn:∀x∈l,x.b<n:=(ret_ok er).2.2
   refine Wc_wf fun hw2=>?_
   refine Wc_loop (fun (s:Nat×Value) m ds h'=>ds=[]/\s.1<=l.length/\Ext h2 h'/\Own h2 h' [slI h2 s.2 75 3 ((retimeS cs (l.take s.1)).flatMap ttVs) (retimeS cs (l.take s.1)).length] ∧
     AllK m [(0,i64 n),(1,.slice ac cs.length cc),(6,s.2),(46,.slice (some ⟨bl,ol,oal⟩) l.length cl),(47,i64 l.length),(48,i64 s.1)]) (fun s=>l.length-s.1) (0,.slice none 0 0) ?_ ?_
   ·exact⟨rfl,Nat.zero_le _,Ext.refl _,(Own.nil h2 h2).nilSl 75 3,rfl,rfl,rfl,rfl,rfl,rfl,trivial⟩
   rintro⟨k,v⟩ m ds h3 ⟨rfl,hk,hE3,hO3,hall⟩
   simp only at hk hO3 hall
   refine Wc_wf fun hw3=>?_
   refine Wc.le ?_ (Le.kn hall)
   refine zy ?_
   refine Wo_dec rfl rfl rfl rfl (A_lss rfl rfl) (fun h4=>?_) (fun h4=>?_)
   rotate_left
   ·have hk2:k=l.length:=by omega
    subst hk2
    rw[List.take_length] at hO3
    have q1:=hO3.p1
    have hb1:=hE.2.1
    refine zy ?_
    exact Wc_ret (Lv_ret rfl ⟨hE.trans hE3,.inr ⟨er,v,rfl,FreshSl.base q1 hb1⟩⟩)
   have hk':k<l.length:=by simpa using h4
   obtain⟨b0,o0,oa0,e0,row,hrow,hr'⟩:=hl k hk'
   cases e0
   obtain⟨x1,x2,x3,-⟩:=hx _ (List.getElem_mem hk')
   have x4:=hbn _ (List.getElem_mem hk')
   have htk:l.take (k+1)=l.take k++[l[k]]:=by rw[List.take_add_one,List.getElem?_eq_getElem hk'];rfl
   have hrs:=retimeS_snoc cs (l.take k) l[k]
   rw[<-htk] at hrs
   have hrl0:=retimeS_len cs (l.take k)
   rw[List.length_take] at hrl0
   generalize l[k]=x at *
   obtain rfl:=hr'
   replace hrow:=(hE.trans hE3).row hrow
   generalize retimeS cs (l.take k)=R at *
   refine zy ?_
   refine Wo_do rfl rfl rfl rfl (A_ix Und.h Tsz.h rfl rfl) ?_
   refine zy ?_
   refine Wo_allocStore rfl rfl Zr.h Tsz.h rfl (fun _=>rfl) rfl rfl rfl fun h5 hE5 hW5 hg5 hn5=>?_
   have hO5:=(hO3.newCe hw3 hE3.2.1 hE5 hg5 (Nat.le_refl _))
   replace hE3:=hE3.trans hE5
   generalize h3.nx=b9 at *
   clear hrow hn5 hE5 hO3 hw3
   clear h3
   refine zy ?_
   have hxa:(x.a.toNat:Int)=x.a:=Int.toNat_of_nonneg x1
   refine Wc.mono (Q:=fun z m' ds' h'=>z=.exit 2/\ds'=[]/\Ext h2 h'/\∃v',Own h2 h' [ceI b9 [i64 x.a,i64 x.b,str x.text] 75 false,slI h2 v' 75 3 ((R++curT cs x (x.b.toNat+1)).flatMap ttVs) (R++curT cs x (x.b.toNat+1)).length]/\AllK m' [(0,i64 n),(1,.slice ac cs.length cc),(6,v'),(46,.slice (some ⟨bl,ol,oal⟩) l.length cl),(47,i64 l.length),(48,i64 k)])
    (Wc_loop (fun (s:Nat×Value) m ds h'=>ds=[]/\x.a.toNat<=s.1/\s.1<=x.b.toNat+1/\Ext h2 h'/\Own h2 h' [ceI b9 [i64 x.a,i64 x.b,str x.text] 75 false,slI h2 s.2 75 3 ((R++curT cs x s.1).flatMap ttVs) (R++curT cs x s.1).length]/\AllK m [(0,i64 n),(1,.slice ac cs.length cc),(6,s.2),(9,.pointer (some ⟨b9,0,none⟩)),(10,i64 ((cntC cs s.1:Int)-cntC cs x.a.toNat)),(11,i64 s.1),(46,.slice (some ⟨bl,ol,oal⟩) l.length cl),(47,i64 l.length),(48,i64 k)])
     (fun s=>x.b.toNat+1-s.1) (x.a.toNat,v) ?_ ?_) ?_
   ·refine⟨rfl,Nat.le_refl _,by show x.a.toNat<=x.b.toNat+1;omega,hE3,?_,rfl,rfl,rfl,rfl,?_,?_,rfl,rfl,rfl,trivial⟩
    ·rw[curT_0,List.append_nil];exact hO5
    ·rw[Int.sub_self];rfl
    ·rw[hxa];rfl
   rotate_left
   ·rintro _ m' ds' h6 ⟨rfl,rfl,hE6,v',hO6,hall⟩
    show Wc _ _ _ _ _ _ _
    refine Wc.le ?_ (Le.kn hall)
    rw[curT_end rfl,<-hrs] at hO6
    refine zy ?_
    exact⟨(k+1,v'),(by show l.length-(k+1)<l.length-k;omega),rfl,hk',hE6,hO6.tail,rfl,rfl,rfl,rfl,rfl,rfl,trivial⟩
   clear hE3 hO5 hW5 hall hg5
   clear h5
   rintro⟨f,u⟩ m ds h5 ⟨rfl,hf1,hf2,hE5,hO5,hall⟩
   simp only at hf1 hf2 hO5 hall
   refine Wc_wf fun hw5=>?_
   have hg5:h5.get b9=some (.cells [i64 x.a,i64 x.b,str x.text] 75 false):=hO5.p1
   have hcm:=cntC_mono cs hf1
   have hcs1:=cntC_succ cs f
   have hci:=fun {m:Int}=>after_cnt hce (i:=f) (n:=m)
   refine Wc.le ?_ (Le.kn hall)
   refine zy ?_
   refine Wo_dec rfl rfl rfl rfl (A_leq rfl rfl) (fun h6=>?_) (fun h6=>?_)
   rotate_left
   ·have hf3:f=x.b.toNat+1:=by omega
    subst hf3
    refine zy ?_
    exact⟨rfl,rfl,hE5,u,hO5,rfl,rfl,rfl,rfl,rfl,rfl,trivial⟩
   have hfn:(f:Int)<n:=by omega
   have haf:=after_sv hI (show I64 (f:Int) from⟨by omega,by omega⟩) (RowsAt.ext (R:=CutR) (fun x _=>x) hcs (hE.trans hE5)) hcF hcL (cc:=cc)
   rw[hafter hfn] at haf
   cases hA:afterC cs (f:Int) with
   | none =>
    rw[hA] at haf hcs1
    have hcs2:cntC cs (f+1)=cntC cs f:=hcs1
    have hcu:curT cs x (f+1)=curT cs x f:=by unfold curT;rw[hcs2]
    refine zy ?_
    refine Wo_callE rfl rfl rfl rfl rfl Bod.h rfl rfl (by exact haf) fun h7 hE7=>?_
    refine zy ?_
    refine Wo_do rfl rfl rfl rfl (A_tt (by decide) (A_neq rfl rfl)) ?_
    refine zy ?_
    refine⟨(f+1,u),(by show x.b.toNat+1-(f+1)<x.b.toNat+1-f;omega),rfl,by show _<=f+1;omega,by show f+1<=_;omega,hE5.trans hE7,?_,rfl,rfl,rfl,rfl,?_,rfl,rfl,rfl,rfl,trivial⟩
    ·rw[hcu];exact hO5.ext hE7
    ·rw[hcs2];rfl
   | some m =>
    rw[hA] at haf hcs1
    have hcs2:cntC cs (f+1)=cntC cs f+1:=hcs1
    have hm:=hci hA
    have hcle:cntC cs f<=f:=by
     unfold cntC
     have:=List.length_filter_le (fun j:Nat=>(afterC cs (j:Int)).isSome) (List.range f)
     rwa [List.length_range] at this
    refine zy ?_
    refine Wo_callE rfl rfl rfl rfl rfl Bod.h rfl rfl (by exact haf) fun h7 hE7=>?_
    have hO7:=hO5.ext hE7
    have hE57:=hE5.trans hE7
    have g7:=hE7.get hg5
    clear haf
    refine zy ?_
    refine Wo_do rfl rfl rfl rfl (A_ff (by exact fun e=>e rfl) (A_neq rfl rfl)) ?_
    refine zy ?_
    by_cases hz:(cntC cs f:Int)-cntC cs x.a.toNat=0
    ·have hcu:curT cs x f=[]:=by unfold curT;rw[if_neg (by omega)]
     have hcu2:curT cs x (f+1)=[⟨(cntC cs x.a.toNat:Nat),m,x.text⟩]:=by
      unfold curT
      rw[if_pos (by omega),hcs2,hm]
      congr 2
      omega
     have hma:m=(cntC cs x.a.toNat:Nat):=by omega
     rw[hcu,List.append_nil] at hO7
     refine Wo_do rfl rfl rfl rfl (A_tt hz (A_eql rfl rfl)) ?_
     refine zy ?_
     refine Wo_bs rfl rfl Und.h Tsz.h Zr.h rfl rfl rfl rfl rfl fun h8 hE8 hW8 hg8 hn8=>?_
     have hrl:(R++[(⟨m,0,x.text⟩:Ttl)]).length=R.length+1:=by simp
     have hrm:(R++[(⟨m,0,x.text⟩:Ttl)]).flatMap ttVs=R.flatMap ttVs++[i64 m,i64 0,str x.text]:=by rw[List.flatMap_append];rfl
     refine Wo_appendO (k:=1) (l:=[i64 m,i64 0,str x.text]) hw2 (hE57.trans hE8) rfl rfl rfl rfl rfl Und.h inferInstance rfl rfl ((hO7.ext hE8).pick 1 rfl) (asrc_row Und.h (by intro k;simp) (rowAt_cells hg8 rfl)) rfl rfl (by omega) (by omega) fun va ha hWa hOa hEa=>?_
     rw[<-hrl,<-hrm] at hOa
     obtain⟨bu,spu,opu,rfl,gu,-,-⟩:=FreshSl.blk (show FreshSl h2 ha va 75 3 _ _ from hOa.p1) (by rw[hrl];exact Nat.succ_pos _)
     have hset:=ttRows_set R m 0 m x.text
     refine zy ?_
     refine Wo_do rfl rfl rfl rfl (A_indexAddr (k:=R.length) Und.h Tsz.h rfl rfl (by rw[hrl];omega) (by rw[hrl];omega)) ?_
     refine zy ?_
     refine Wo_store rfl Tsz.h rfl rfl gu rfl rfl (by exact lay_one (by rw[ttRows_len,hrl];omega)) fun hb hUb=>?_
     rw[Nat.zero_add,hset] at hUb
     obtain⟨hOb,hEb⟩:=hOa.setSlK hWa hEa hw2 hUb (by rw[ttRows_len,ttRows_len];simp)
     have hOc:=hOb.unpick 1 (Nat.le_of_ble_eq_true rfl)
     refine zy ?_
     refine⟨(f+1,_),(by show x.b.toNat+1-(f+1)<x.b.toNat+1-f;omega),rfl,by show _<=f+1;omega,by show f+1<=_;omega,hEb,?_,rfl,rfl,rfl,rfl,?_,rfl,rfl,rfl,rfl,trivial⟩
     ·rw[hcu2]
      simp only[List.length_append,List.length_singleton] at hOc ⊢
      rw[<-hma]
      exact hOc
     ·rw[hcs2,show ((cntC cs f+1:Nat):Int)-cntC cs x.a.toNat=(cntC cs f:Int)-cntC cs x.a.toNat+1 by omega];rfl
    ·have hcu:curT cs x f=[⟨(cntC cs x.a.toNat:Nat),(cntC cs f:Nat)-1,x.text⟩]:=by unfold curT;rw[if_pos (by omega)]
     have hcu2:curT cs x (f+1)=[⟨(cntC cs x.a.toNat:Nat),m,x.text⟩]:=by
      unfold curT
      rw[if_pos (by omega),hcs2,hm]
      congr 2
      omega
     rw[hcu] at hO7
     have hOa:=hO7.pick 1 rfl
     have hrl:(R++[(⟨(cntC cs x.a.toNat:Nat),(cntC cs f:Nat)-1,x.text⟩:Ttl)]).length=R.length+1:=by simp
     obtain⟨bu,spu,opu,rfl,gu,-,-⟩:=FreshSl.blk (show FreshSl h2 h7 u 75 3 _ _ from hOa.p1) (by rw[hrl];exact Nat.succ_pos _)
     have hset:=ttRows_set R (cntC cs x.a.toNat:Nat) ((cntC cs f:Nat)-1) m x.text
     refine Wo_do rfl rfl rfl rfl (A_ff hz (A_eql rfl rfl)) ?_
     refine Wo_wf fun hw7=>?_
     refine zy ?_
     refine Wo_do rfl rfl rfl rfl (A_indexAddr (k:=R.length) Und.h Tsz.h rfl rfl (by rw[hrl];omega) (by rw[hrl];omega)) ?_
     refine zy ?_
     refine Wo_store rfl Tsz.h rfl rfl gu rfl rfl (by exact lay_one (by rw[ttRows_len,hrl];omega)) fun hb hUb=>?_
     rw[Nat.zero_add,hset] at hUb
     obtain⟨hOb,hEb⟩:=hOa.setSlK hw7 hE57 hw2 hUb (by rw[ttRows_len,ttRows_len];simp)
     have hOc:=hOb.unpick 1 (Nat.le_of_ble_eq_true rfl)
     refine zy ?_
     refine⟨(f+1,_),(by show x.b.toNat+1-(f+1)<x.b.toNat+1-f;omega),rfl,by show _<=f+1;omega,by show f+1<=_;omega,hEb,?_,rfl,rfl,rfl,rfl,?_,rfl,rfl,rfl,rfl,trivial⟩
     ·rw[hcu2]
      simp only[List.length_append,List.length_singleton] at hOc ⊢
      exact hOc
     ·rw[hcs2,show ((cntC cs f+1:Nat):Int)-cntC cs x.a.toNat=(cntC cs f:Int)-cntC cs x.a.toNat+1 by omega];rfl
  ·have hle:l=[]:=List.eq_nil_of_length_eq_zero (by omega)
   subst hle
   have er0:retErr n cs []=0:=er
   refine Wo_do rfl rfl rfl rfl (A_ff (by omega) (A_gtr rfl rfl)) ?_
   refine zy ?_
   refine Wc_loop (fun (_:Unit) m ds h'=>ds=[]/\h2=h'/\AllK m [(6,.slice none 0 0),(47,i64 0),(48,i64 0)]) (fun _=>0) () ⟨rfl,rfl,rfl,rfl,rfl,trivial⟩ ?_
   rintro _ m ds h' ⟨rfl,rfl,hall⟩
   refine Wc.le ?_ (Le.kn hall)
   refine zy ?_
   refine Wo_do rfl rfl rfl rfl (A_ff (by decide) (A_lss rfl rfl)) ?_
   refine zy ?_
   exact Wc_ret (Lv_ret rfl ⟨hE,.inr ⟨er0,.slice none 0 0,rfl,FreshSl.nil _ _ _ _⟩⟩)
end Go.Dw
/- T4: contracts: subtitles as they stand after cuts, package telecineref11; lists compared. -/
namespace Go.Dw
open Go Go.Dx Go.Proofs
set_option maxRecDepth 100000
def rowT (cs:List Cut)(x:Ttl)(f:Nat):List Value:=if cntC cs x.a.toNat<cntC cs f then [i64 (cntC cs x.a.toNat:Nat),i64 ((cntC cs f:Nat)-1),str x.text] else [i64 x.a,i64 x.b,str x.text]
theorem Ttl.ext' {a b:Ttl}(h1:a.a=b.a)(h2:a.b=b.b)(h3:a.text=b.text):a=b:=by cases a;cases b;simp_all
instance:DecidableEq Ttl:=fun a b=>decidable_of_iff (a.a=b.a/\a.b=b.b/\a.text=b.text) ⟨fun ⟨h1,h2,h3⟩=>Ttl.ext' h1 h2 h3,fun h=>by subst h;simp⟩
end Go.Dw
