/- T2: contracts: subtitles: what is wrong, what cannot be read. -/
import Derived.Test.YtfgeelpahicelaaGreatDoorRG2
import Derived.Test.YtfgeelpahicelaaGreatDoorRG11
import Derived.Test.YtfgeelpahicelaaGreatDoorRG5
import Derived.Test.YtfgeelpahicelaaGreatDoorRG13
import Derived.Test.YtfgeelpahicelaaGreatDoorRG12
set_option linter.unusedVariables false
set_option linter.unusedSimpArgs false
namespace Go.Dw
open Go Go.Dx Go.Proofs
set_option maxRecDepth 100000
theorem titlesGo_rng {bef:Int}{x:Ttl}{xs:List Ttl}(h:(x.a<0\/199999<x.a)\/(x.b<0\/199999<x.b)):titlesGo bef (x::xs)=7:=by
 show (if _ then _ else _)=_
 rw[if_pos h]
theorem titlesGo_arg {bef:Int}{x:Ttl}{xs:List Ttl}(h:¬((x.a<0\/199999<x.a)\/(x.b<0\/199999<x.b)))(h2:x.b<x.a\/x.a<=bef):titlesGo bef (x::xs)=2:=by
 show (if _ then _ else _)=_
 rw[if_neg h,if_pos h2]
theorem titlesGo_form {bef:Int}{x:Ttl}{xs:List Ttl}(h:¬((x.a<0\/199999<x.a)\/(x.b<0\/199999<x.b)))(h2:¬(x.b<x.a\/x.a<=bef))(h3:textB x.text=false):titlesGo bef (x::xs)=6:=by
 show (if _ then _ else _)=_
 rw[if_neg h,if_neg h2,if_pos h3]
theorem titlesGo_on {bef:Int}{x:Ttl}{xs:List Ttl}(h:¬((x.a<0\/199999<x.a)\/(x.b<0\/199999<x.b)))(h2:¬(x.b<x.a\/x.a<=bef))(h3:textB x.text=true):titlesGo bef (x::xs)=titlesGo x.b xs:=by
 show (if _ then _ else _)=_
 rw[if_neg h,if_neg h2,if_neg (by rw[h3];simp)]
theorem titlesErr_long {l:List Ttl}(h:40<l.length):titlesErr l=3:=by unfold titlesErr;rw[if_pos h]
theorem titlesErr_go {l:List Ttl}(h:¬40<l.length):titlesErr l=titlesGo (-1) l:=by unfold titlesErr;rw[if_neg h]
theorem strange_sv {l:List Ttl}{al:Option Addr}{cl:Nat}{h:Heap}(hl:RowsAt 3 TtlR h al l)(hF:∀x∈l,x.Fit)(hL:Len l)(hLib:LibAt h):Sv Tryz.prog 91 [.slice al l.length cl] h (RetP fun v h'=>v=i64 (titlesErr l)/\Ext h h'):=by
 refine Sv_enter Tryz.func91 rfl (by rw[Tryz.ntmps91];rfl) ?_;show Wc Tryz.prog ⟨91,44,none⟩ _ _ _ _ _
 refine zy ?_
 refine Wo_dec rfl rfl rfl rfl (A_gtr rfl rfl) (fun h1=>?_) (fun h1=>?_)
 ·refine zy ?_
  exact Wc_ret (Lv_ret rfl ⟨by rw[titlesErr_long (by omega)];rfl,Ext.refl _⟩)
 rw[titlesErr_go (by omega)]
 refine zy ?_
 refine Wc_loop (fun (s:Nat×Int) m ds h'=>ds=[]/\Ext h h'/\s.1<=l.length/\titlesGo (-1) l=titlesGo s.2 (l.drop s.1)/\AllK m [(3,i64 s.2),(9,.slice al l.length cl),(10,i64 l.length),(11,i64 s.1)]) (fun s=>l.length-s.1) (0,-1) ?_ ?_
 ·exact⟨rfl,Ext.refl _,Nat.zero_le _,by rw[List.drop_zero],rfl,rfl,rfl,rfl,trivial⟩
 rintro⟨k,bef⟩ m ds h2 ⟨rfl,hE2,hk,hgo,hall⟩
 simp only at hk hgo hall
 refine Wc.le ?_ (Le.kn hall)
 refine zy ?_
 refine Wo_dec rfl rfl rfl rfl (A_lss rfl rfl) (fun h3=>?_) (fun h3=>?_)
 rotate_left
 ·have hk2:k=l.length:=by omega
  subst hk2
  rw[hgo,List.drop_length]
  refine zy ?_
  exact Wc_ret (Lv_ret rfl ⟨rfl,hE2⟩)
 have hk':k<l.length:=by simpa using h3
 obtain⟨b,o,oa,rfl,row,hrow,hr⟩:=hl k hk'
 have hFx:=hF _ (List.getElem_mem hk')
 rw[List.drop_eq_getElem_cons hk'] at hgo
 rw[hgo]
 generalize l[k]=x at *
 obtain rfl:=hr
 replace hrow:=hE2.row hrow
 refine zy ?_
 refine Wo_do rfl rfl rfl rfl (A_ix Und.h Tsz.h rfl rfl) ?_
 refine zy ?_
 refine Wo_allocStore rfl rfl Zr.h Tsz.h rfl (fun _=>rfl) rfl rfl rfl fun h4 hE4 hW4 hg4 hn4=>?_
 have hE:=hE2.trans hE4
 generalize h2.nx=b2 at *
 clear hrow hE2 hE4 hn4
 clear h2
 refine zy ?_
 refine Wo_callP rfl rfl rfl rfl rfl Bod.h rfl rfl (out_sv _ _ _ _) (fun h5=>?_) (fun h5=>?_)
 ·replace h5:=of_decide_eq_true h5
  refine zy ?_
  exact Wc_ret (Lv_ret rfl ⟨by rw[titlesGo_rng (.inl h5)];rfl,hE⟩)
 replace h5:=of_decide_eq_false h5
 refine zy ?_
 refine Wo_callP rfl rfl rfl rfl rfl Bod.h rfl rfl (out_sv _ _ _ _) (fun h6=>?_) (fun h6=>?_)
 ·replace h6:=of_decide_eq_true h6
  refine zy ?_
  exact Wc_ret (Lv_ret rfl ⟨by rw[titlesGo_rng (.inr h6)];rfl,hE⟩)
 replace h6:=of_decide_eq_false h6
 have h56:¬((x.a<0\/199999<x.a)\/(x.b<0\/199999<x.b)):=fun e=>e.elim h5 h6
 refine zy ?_
 refine Wo_dec rfl rfl rfl rfl (A_gtr rfl rfl) (fun h7=>?_) (fun h7=>?_)
 ·refine zy ?_
  exact Wc_ret (Lv_ret rfl ⟨by rw[titlesGo_arg h56 (.inl h7)];rfl,hE⟩)
 refine zy ?_
 refine Wo_dec rfl rfl rfl rfl (A_leq rfl rfl) (fun h8=>?_) (fun h8=>?_)
 ·refine zy ?_
  exact Wc_ret (Lv_ret rfl ⟨by rw[titlesGo_arg h56 (.inr h8)];rfl,hE⟩)
 have h78:¬(x.b<x.a\/x.a<=bef):=fun e=>e.elim h7 h8
 refine zy ?_
 refine Wo_callB rfl rfl rfl rfl rfl Bod.h rfl rfl (printed_sv hFx.3 (hLib.ext hE)) (fun h9 h10 hE10=>?_) (fun h9 h10 hE10=>?_)
 ·rw[titlesGo_on h56 h78 h9]
  replace hg4:=hE10.get hg4
  refine zy ?_
  exact⟨(k+1,x.b),(by show l.length-(k+1)<l.length-k;omega),rfl,hE.trans hE10,hk',rfl,rfl,rfl,rfl,rfl,trivial⟩
 ·refine zy ?_
  exact Wc_ret (Lv_ret rfl ⟨by rw[titlesGo_form h56 h78 h9];rfl,hE.trans hE10⟩)
def befT (l:List Ttl):Nat->Int
 | 0=>-1
 | k+1=>match l[k]? with|some x=>x.b|none=>-1
theorem befT_succ {l:List Ttl}{k:Nat}(hk:k<l.length):befT l (k+1)=l[k].b:=by
 show (match l[k]? with|some x=>x.b|none=>-1)=_
 rw[List.getElem?_eq_getElem hk]
theorem refTitles_sv {l:List Ttl}{al:Option Addr}{cl:Nat}{h:Heap}(hl:RowsAt 3 TtlR h al l)(hF:∀x∈l,x.Fit)(hL:Len l):Sv Tryz.prog 93 [.slice al l.length cl] h (RetP fun v h'=>v=i64 (titlesErr l)/\h'=h):=by
 refine Sv_enter Tryz.func93 rfl (by rw[Tryz.ntmps93];rfl) ?_;show Wc Tryz.prog ⟨93,65,none⟩ _ _ _ _ _
 refine zy ?_
 refine Wo_dec rfl rfl rfl rfl (A_gtr rfl rfl) (fun h1=>?_) (fun h1=>?_)
 ·refine zy ?_
  exact Wc_ret (Lv_ret rfl ⟨by rw[titlesErr_long (by omega)];rfl,rfl⟩)
 rw[titlesErr_go (by omega)]
 refine zy ?_
 refine Wc_loop (fun (k:Nat) m ds h'=>ds=[]/\h=h'/\k<=l.length/\titlesGo (-1) l=titlesGo (befT l k) (l.drop k)/\AllK m [(0,.slice al l.length cl),(3,i64 k)]) (fun k=>l.length-k) 0 ?_ ?_
 ·exact⟨rfl,rfl,Nat.zero_le _,by rw[List.drop_zero];rfl,rfl,rfl,trivial⟩
 rintro k m ds h2 ⟨rfl,rfl,hk,hgo,hall⟩
 refine Wc.le ?_ (Le.kn hall)
 refine zy ?_
 refine Wo_dec rfl rfl rfl rfl (A_lss rfl rfl) (fun h3=>?_) (fun h3=>?_)
 rotate_left
 ·have hk2:k=l.length:=by omega
  subst hk2
  rw[hgo,List.drop_length]
  refine zy ?_
  exact Wc_ret (Lv_ret rfl ⟨rfl,rfl⟩)
 have hk':k<l.length:=by simpa using h3
 obtain⟨b,o,oa,rfl,row,hrow,hr⟩:=hl k hk'
 have hFx:=hF _ (List.getElem_mem hk')
 rw[List.drop_eq_getElem_cons hk'] at hgo
 rw[hgo]
 have hbs:=befT_succ hk'
 have hprev:0<k->∃y:Int,cellAt h b (o+(k-1)*3+1)=some (i64 y)/\befT l k=y:=fun h0=>by
  obtain⟨b',o',oa',e,row',hrow',hr'⟩:=hl (k-1) (by omega)
  cases e
  obtain rfl:=hr'
  refine⟨l[k-1].b,cell_of_row hrow' rfl,?_⟩
  have:=befT_succ (l:=l) (k:=k-1) (by omega)
  rwa [show k-1+1=k by omega] at this
 generalize l[k]=x at *
 obtain rfl:=hr
 have z0:cellAt h b (o+k*3+0)=some (i64 x.a):=cell_of_row hrow rfl
 have z1:cellAt h b (o+k*3+1)=some (i64 x.b):=cell_of_row hrow rfl
 have z2:cellAt h b (o+k*3+2)=some (str x.text):=cell_of_row hrow rfl
 refine zy ?_
 refine Wo_do rfl rfl rfl rfl (A_ix Und.h Tsz.h rfl rfl) ?_
 refine zy ?_
 refine Wo_callP rfl rfl rfl rfl rfl Bod.h rfl rfl (in_sv _ _ _ _) (fun h5=>?_) (fun h5=>?_)
 rotate_left
 ·replace h5:=of_decide_eq_false h5
  refine zy ?_
  exact Wc_ret (Lv_ret rfl ⟨by rw[titlesGo_rng (by omega)];rfl,rfl⟩)
 replace h5:=of_decide_eq_true h5
 refine zy ?_
 refine Wo_do rfl rfl rfl rfl (A_ix Und.h Tsz.h rfl rfl) ?_
 refine zy ?_
 refine Wo_callP rfl rfl rfl rfl rfl Bod.h rfl rfl (in_sv _ _ _ _) (fun h6=>?_) (fun h6=>?_)
 rotate_left
 ·replace h6:=of_decide_eq_false h6
  refine zy ?_
  exact Wc_ret (Lv_ret rfl ⟨by rw[titlesGo_rng (by omega)];rfl,rfl⟩)
 replace h6:=of_decide_eq_true h6
 have h56:¬((x.a<0\/199999<x.a)\/(x.b<0\/199999<x.b)):=by omega
 refine zy ?_
 by_cases h7:x.b<x.a
 ·refine Wc_draw hmix [0,0,3,7,15,0,0,96,224,480,1023,2047,4095,8191,16383,32767,32767,131071,262143,524287,32767,32767,2129919,7372799,15761407,32538623,67108863,134217727,268435455] [0,1,2,3,4,5,6,7,8,9,10,11,12,13,14,15,16,17,18,19,20,21,22,23,24,25,26,27,28] none [] (by kernel_rfl) (by kernel_rfl) ?_
  refine z_m ?_;refine z_m ?_;refine z_i ?_;refine z_f ?_;refine z_l ?_;refine z_m ?_;refine z_m ?_;refine z_i ?_;refine z_f ?_;refine z_l ?_;refine Wp_pure rfl rfl rfl rfl rfl (fun _=>A_tt h7 (A_gtr rfl rfl)) ?_;refine z_m ?_;refine g_m ?_;refine z_o ?_;refine g_m ?_;refine g_m ?_;refine g_m ?_;refine z_o ?_;refine g_f ?_;refine g_l ?_;refine g_m ?_;refine g_m ?_;refine g_u ?_;refine z_o ?_;refine g_f ?_;refine g_l ?_;refine z_o ?_;refine g_p ?_;refine z_p ?_
  refine Wp_end (Stl_nil rfl) nb' ?_
  refine zy ?_
  exact Wc_ret (Lv_ret rfl ⟨by rw[titlesGo_arg h56 (.inl h7)];rfl,rfl⟩)
 by_cases h0:0<k
 ·obtain⟨y,zp,hy⟩:=hprev h0
  rw[hy]
  by_cases h8:x.a<=y
  ·refine Wc_draw hmix [0,0,3,7,15,0,0,96,224,480,1023,2047,4095,8191,16383,32767,32767,131071,262143,524287,32767,32767,2129919,7372799,15761407,32538623,67108863,134217727,268435455] [0,1,2,3,4,5,6,7,8,9,10,11,12,13,14,15,16,17,18,19,20,21,22,23,24,25,26,27,28] none [] (by kernel_rfl) (by kernel_rfl) ?_
   refine z_m ?_;refine z_m ?_;refine z_i ?_;refine z_f ?_;refine z_l ?_;refine z_m ?_;refine z_m ?_;refine z_i ?_;refine z_f ?_;refine z_l ?_;refine Wp_pure rfl rfl rfl rfl rfl (fun _=>A_ff h7 (A_gtr rfl rfl)) ?_;refine z_m ?_;refine g_m ?_
   first|refine Wp_off rfl rfl rfl rfl ?_|refine Wp_pure rfl rfl rfl rfl rfl (fun _=>A_tt (by omega) (A_gtr rfl rfl)) ?_
   refine g_m ?_;refine g_m ?_;refine g_m ?_;refine g_i ?_;refine g_f ?_;refine g_l ?_;refine g_m ?_;refine g_m ?_;refine g_u ?_
   first|refine Wp_off rfl rfl rfl rfl ?_|refine Wp_pure rfl rfl rfl rfl rfl (fun _=>A_indexAddr (k:=k-1) Und.h Tsz.h rfl rfl (by omega) (by omega)) ?_
   refine g_f ?_;refine g_l ?_
   first|refine Wp_off rfl rfl rfl rfl ?_|refine Wp_pure rfl rfl rfl rfl rfl (fun _=>A_tt h8 (A_leq rfl rfl)) ?_
   refine g_p ?_;refine z_p ?_
   refine Wp_end (Stl_nil rfl) nb' ?_
   refine zy ?_
   exact Wc_ret (Lv_ret rfl ⟨by rw[titlesGo_arg h56 (.inr h8)];rfl,rfl⟩)
  have h78:¬(x.b<x.a\/x.a<=y):=fun e=>e.elim h7 h8
  refine Wc_draw hmix [0,0,3,7,15,0,0,96,224,480,1023,2047,4095,8191,16383,32767,32767,131071,262143,524287,32767,32767,2129919,7372799,15761407,32538623,67108863,134217727,268435455] [0,1,2,3,4,5,6,7,8,9,10,11,12,13,14,15,16,17,18,19,20,21,22,23,24,25,26,27,28] none [] (by kernel_rfl) (by kernel_rfl) ?_
  refine z_m ?_;refine z_m ?_;refine z_i ?_;refine z_f ?_;refine z_l ?_;refine z_m ?_;refine z_m ?_;refine z_i ?_;refine z_f ?_;refine z_l ?_;refine Wp_pure rfl rfl rfl rfl rfl (fun _=>A_ff h7 (A_gtr rfl rfl)) ?_;refine z_m ?_;refine g_m ?_
  first|refine Wp_off rfl rfl rfl rfl ?_|refine Wp_pure rfl rfl rfl rfl rfl (fun _=>A_tt (by omega) (A_gtr rfl rfl)) ?_
  refine g_m ?_;refine g_m ?_;refine g_m ?_;refine g_i ?_;refine g_f ?_;refine g_l ?_;refine g_m ?_;refine g_m ?_;refine g_u ?_
  first|refine Wp_off rfl rfl rfl rfl ?_|refine Wp_pure rfl rfl rfl rfl rfl (fun _=>A_indexAddr (k:=k-1) Und.h Tsz.h rfl rfl (by omega) (by omega)) ?_
  refine g_f ?_;refine g_l ?_
  first|refine Wp_off rfl rfl rfl rfl ?_|refine Wp_pure rfl rfl rfl rfl rfl (fun _=>A_ff h8 (A_leq rfl rfl)) ?_
  refine g_p ?_;refine z_p ?_
  refine Wp_end (Stl_nil rfl) nb' ?_
  refine zy ?_
  refine Wo_do rfl rfl rfl rfl (A_ix Und.h Tsz.h rfl rfl) ?_
  refine zy ?_
  refine Wo_callP rfl rfl rfl rfl rfl Bod.h rfl rfl (refText_sv hFx.3) (fun h9=>?_) (fun h9=>?_)
  ·rw[titlesGo_on h56 h78 h9,<-hbs]
   refine zy ?_
   exact⟨k+1,(by show l.length-(k+1)<l.length-k;omega),rfl,rfl,hk',rfl,rfl,rfl,trivial⟩
  ·refine zy ?_
   exact Wc_ret (Lv_ret rfl ⟨by rw[titlesGo_form h56 h78 h9];rfl,rfl⟩)
 ·obtain rfl:k=0:=by omega
  have h78:¬(x.b<x.a\/x.a<=befT l 0):=by
   show ¬(x.b<x.a\/x.a <= -1)
   omega
  refine Wc_draw hmix [0,0,3,7,15,0,0,96,224,480,1023,2047,4095,8191,16383,32767,32767,131071,262143,524287,32767,32767,2129919,7372799,15761407,32538623,67108863,134217727,268435455] [0,1,2,3,4,5,6,7,8,9,10,11,12,13,14,15,16,17,18,19,20,21,22,23,24,25,26,27,28] none [] (by kernel_rfl) (by kernel_rfl) ?_
  refine z_m ?_;refine z_m ?_;refine z_i ?_;refine z_f ?_;refine z_l ?_;refine z_m ?_;refine z_m ?_;refine z_i ?_;refine z_f ?_;refine z_l ?_;refine Wp_pure rfl rfl rfl rfl rfl (fun _=>A_ff h7 (A_gtr rfl rfl)) ?_;refine z_m ?_;refine g_m ?_
  first|refine Wp_off rfl rfl rfl rfl ?_|refine Wp_pure rfl rfl rfl rfl rfl (fun _=>A_ff (by decide) (A_gtr rfl rfl)) ?_
  refine g_m ?_;refine g_m ?_;refine g_m ?_;refine z_o ?_;refine g_f ?_;refine g_l ?_;refine g_m ?_;refine g_m ?_;refine g_u ?_;refine z_o ?_;refine g_f ?_;refine g_l ?_;refine z_o ?_;refine g_p ?_;refine z_p ?_
  refine Wp_end (Stl_nil rfl) nb' ?_
  refine zy ?_
  refine Wo_do rfl rfl rfl rfl (A_ix Und.h Tsz.h rfl rfl) ?_
  refine zy ?_
  refine Wo_callP rfl rfl rfl rfl rfl Bod.h rfl rfl (refText_sv hFx.3) (fun h9=>?_) (fun h9=>?_)
  ·rw[titlesGo_on h56 h78 h9,<-hbs]
   refine zy ?_
   exact⟨1,(by show l.length-1<l.length-0;omega),rfl,rfl,hk',rfl,rfl,rfl,trivial⟩
  ·refine zy ?_
   exact Wc_ret (Lv_ret rfl ⟨by rw[titlesGo_form h56 h78 h9];rfl,rfl⟩)
theorem titles_each {l:List Ttl}(h:titlesErr l=0):l.length<=40/\(∀x∈l,0<=x.a/\x.a<=x.b/\x.b<=199999/\textB x.text=true)/\l.Pairwise fun x y=>x.b<y.a:=by
 unfold titlesErr at h
 split at h
 ·cases h
 obtain⟨h1,h2⟩:=titlesGo_ok h
 exact⟨by omega,fun x hx=>(h1 x hx).2,h2⟩
theorem text_len {s:List UInt8}(h:textB s=true):1<=s.length/\s.length<=80:=by
 rw[textB_eq] at h
 simp only[Bool.and_eq_true,decide_eq_true_eq] at h
 exact h.1.1
def unreadK (l:List Ttl)(speed rate:Int)(k:Nat):List Nat:=(List.range k).filter fun i=>match l[i]? with|some x=>unreadB speed rate x|none=>false
theorem unreadK_all (l:List Ttl)(speed rate:Int):unreadK l speed rate l.length=unreadS l speed rate:=rfl
theorem unreadK_succ {l:List Ttl}{speed rate:Int}{k:Nat}(hk:k<l.length):unreadK l speed rate (k+1)=if unreadB speed rate l[k]=true then unreadK l speed rate k++[k] else unreadK l speed rate k:=by
 unfold unreadK
 rw[List.range_succ,List.filter_append]
 simp only[List.filter_cons,List.filter_nil,List.getElem?_eq_getElem hk]
 split <;> simp
theorem unreadK_len {l:List Ttl}{speed rate:Int}{k:Nat}:(unreadK l speed rate k).length<=k:=by
 unfold unreadK
 have:=List.length_filter_le (fun i=>match l[i]? with|some x=>unreadB speed rate x|none=>false) (List.range k)
 rwa [List.length_range] at this
abbrev natV (n:Nat):Value:=i64 (n:Int)
def unErr (l:List Ttl)(speed rate:Int):Int:=if titlesErr l≠0 then titlesErr l else if (speed<1\/60<speed)\/(rate<1\/60<rate) then 7 else 0
def UnR (l:List Ttl)(speed rate:Int)(h:Heap)(v:Value)(h':Heap):Prop:=Ext h h'/\((¬unErr l speed rate=0/\v=.tuple ⟨[.slice none 0 0,i64 (unErr l speed rate)]⟩)\/(unErr l speed rate=0/\∃va,v=.tuple ⟨[va,i64 0]⟩/\FreshSl h h' va 3 1 ((unreadS l speed rate).map natV) (unreadS l speed rate).length))
theorem mul_rng {a b A B:Int}(h1:0<=a)(h2:a<=A)(h3:0<=b)(h4:b<=B):0<=a*b/\a*b<=A*B :=
 ⟨Int.mul_nonneg h1 h3,Int.mul_le_mul h2 h4 h3 (by omega)⟩
set_option maxHeartbeats 1000000 in
theorem scUnread_sv {l:List Ttl}{al:Option Addr}{cl:Nat}{speed rate:Int}{h:Heap}(hl:RowsAt 3 TtlR h al l)(hF:∀x∈l,x.Fit)(hL:Len l)(hs:I64 speed)(hr:I64 rate)(hLib:LibAt h):Sv Tryz.prog 31 [.slice al l.length cl,i64 speed,i64 rate] h (RetP (UnR l speed rate h)):=by
 refine Sv_wf fun hw=>?_
 refine Sv_enter Tryz.func31 rfl (by rw[Tryz.ntmps31];rfl) ?_;show Wc Tryz.prog ⟨31,50,none⟩ _ _ _ _ _
 refine zy ?_
 refine Wo_callE rfl rfl rfl rfl rfl Bod.h rfl rfl (strange_sv hl hF hL hLib) fun h1 hE1=>?_
 by_cases he:titlesErr l=0
 rotate_left
 ·have e:unErr l speed rate=titlesErr l:=by unfold unErr;rw[if_pos he]
  generalize titlesErr l=n at *
  refine zy ?_
  refine Wo_do rfl rfl rfl rfl (A_tt he (A_neq rfl rfl)) ?_
  refine zy ?_
  exact Wc_ret (Lv_ret rfl ⟨hE1,.inl ⟨by rw[e];exact he,by rw[e];rfl⟩⟩)
 have eU:unErr l speed rate=if (speed<1\/60<speed)\/(rate<1\/60<rate) then 7 else 0:=by unfold unErr;rw[if_neg (fun e=>e he)]
 obtain⟨hn,hx,-⟩:=titles_each he
 rw[he]
 refine zy ?_
 refine Wo_do rfl rfl rfl rfl (A_ff (by decide) (A_neq rfl rfl)) ?_
 refine zy ?_
 refine Wo_callP rfl rfl rfl rfl rfl Bod.h rfl rfl (out_sv _ _ _ _) (fun h2=>?_) (fun h2=>?_)
 ·rw[if_pos (.inl (of_decide_eq_true h2))] at eU
  refine zy ?_
  exact Wc_ret (Lv_ret rfl ⟨hE1,.inl ⟨by rw[eU];decide,by rw[eU];rfl⟩⟩)
 replace h2:=of_decide_eq_false h2
 refine zy ?_
 refine Wo_callP rfl rfl rfl rfl rfl Bod.h rfl rfl (out_sv _ _ _ _) (fun h3=>?_) (fun h3=>?_)
 ·rw[if_pos (.inr (of_decide_eq_true h3))] at eU
  refine zy ?_
  exact Wc_ret (Lv_ret rfl ⟨hE1,.inl ⟨by rw[eU];decide,by rw[eU];rfl⟩⟩)
 replace h3:=of_decide_eq_false h3
 rw[if_neg (fun e=>e.elim h2 h3)] at eU
 refine Wo_wf fun hw1=>?_
 refine zy ?_
 refine Wc_loop (fun (s:Nat×Value) m ds h'=>ds=[]/\s.1<=l.length/\Ext h1 h'/\Own h1 h' [slI h1 s.2 3 1 ((unreadK l speed rate s.1).map natV) (unreadK l speed rate s.1).length]/\AllK m [(1,i64 speed),(2,i64 rate),(6,s.2),(23,.slice al l.length cl),(24,i64 l.length),(25,i64 s.1)]) (fun s=>l.length-s.1) (0,.slice none 0 0) ?_ ?_
 ·exact⟨rfl,Nat.zero_le _,Ext.refl _,(Own.nil h1 h1).nilSl 3 1,rfl,rfl,rfl,rfl,rfl,rfl,trivial⟩
 rintro⟨k,v⟩ m ds h4 ⟨rfl,hk,hE4,hO4,hall⟩
 simp only at hk hO4 hall
 refine Wc_wf fun hw4=>?_
 refine Wc.le ?_ (Le.kn hall)
 refine zy ?_
 refine Wo_dec rfl rfl rfl rfl (A_lss rfl rfl) (fun h5=>?_) (fun h5=>?_)
 rotate_left
 ·have hk2:k=l.length:=by omega
  subst hk2
  rw[unreadK_all] at hO4
  have q1:=hO4.p1
  have hb1:=hE1.2.1
  refine zy ?_
  exact Wc_ret (Lv_ret rfl ⟨hE1.trans hE4,.inr ⟨eU,v,rfl,FreshSl.base q1 hb1⟩⟩)
 have hk':k<l.length:=by simpa using h5
 obtain⟨b,o,oa,rfl,row,hrow,hr'⟩:=hl k hk'
 obtain⟨x1,x2,x3,x4⟩:=hx _ (List.getElem_mem hk')
 have hsu:=unreadK_succ (speed:=speed) (rate:=rate) hk'
 have hln:=unreadK_len (l:=l) (speed:=speed) (rate:=rate) (k:=k)
 have x5:=text_len x4
 generalize l[k]=x at *
 obtain rfl:=hr'
 replace hrow:=(hE1.trans hE4).row hrow
 unfold unreadB at hsu
 have hm1:=mul_rng (a:=(x.text.length:Int)) (b:=speed) (A:=80) (B:=60) (by omega) (by omega) (by omega) (by omega)
 have hm2:=mul_rng (a:=rate) (b:=x.b-x.a+1) (A:=60) (B:=200000) (by omega) (by omega) (by omega) (by omega)
 generalize hM1:(x.text.length:Int)*speed=M1 at *
 generalize hM2:rate*(x.b-x.a+1)=M2 at *
 refine zy ?_
 refine Wo_do rfl rfl rfl rfl (A_ix Und.h Tsz.h rfl rfl) ?_
 refine zy ?_
 refine Wo_alloc rfl rfl Zr.h fun h6 hE6 hW6 hg6 hn6=>?_
 have hb4:=hE4.2.1
 refine zy ?_
 refine Wo_store rfl Tsz.h rfl rfl hg6 rfl rfl rfl fun h7 hU7=>?_
 have hE7:=hU7.ext hE6 hw4 (Nat.le_refl _)
 have hg7:=hU7.at'
 have hO7:=hO4.ext hE7
 have hE47:=hE4.trans hE7
 generalize h4.nx=b4 at *
 clear hg6 hU7 hE6 hW6 hn6 hrow
 clear h6
 refine zy ?_
 refine Wo_do rfl rfl rfl rfl (A_mulV rfl rfl hM1 (by omega) (by omega)) ?_
 refine zy ?_
 refine Wo_do rfl rfl rfl rfl (A_mulV rfl rfl hM2 (by omega) (by omega)) ?_
 refine zy ?_
 by_cases h8:M2<M1
 ·rw[if_pos (decide_eq_true h8)] at hsu
  generalize unreadK l speed rate k=U at *
  have hul:(U++[k]).length=U.length+1:=by simp
  have hum:(U++[k]).map natV=U.map natV++[i64 (k:Int)]:=by rw[List.map_append];rfl
  refine Wo_do rfl rfl rfl rfl (A_tt h8 (A_gtr rfl rfl)) ?_
  refine zy ?_
  refine Wo_bs rfl rfl Und.h Tsz.h Zr.h rfl rfl rfl rfl rfl fun h9 hE9 hW9 hg9 hn9=>?_
  refine Wo_appendO (k:=1) (l:=[i64 (k:Int)]) hw1 (hE47.trans hE9) rfl rfl rfl rfl rfl Und.h inferInstance rfl rfl (hO7.ext hE9) (asrc_row Und.h (by intro k;simp) (rowAt_cells hg9 rfl)) rfl rfl (by omega) (by omega) fun va ha hWa hOa hEa=>?_
  rw[<-hul,<-hum] at hOa
  refine zy ?_
  refine⟨(k+1,va),(by show l.length-(k+1)<l.length-k;omega),rfl,hk',hEa,?_,rfl,rfl,rfl,rfl,rfl,rfl,trivial⟩
  simp only[hsu];exact hOa
 ·rw[if_neg (by rw[decide_eq_false h8];simp)] at hsu
  refine Wo_do rfl rfl rfl rfl (A_ff h8 (A_gtr rfl rfl)) ?_
  refine zy ?_
  refine⟨(k+1,v),(by show l.length-(k+1)<l.length-k;omega),rfl,hk',hE47,?_,rfl,rfl,rfl,rfl,rfl,rfl,trivial⟩
  simp only[hsu];exact hO7
set_option maxHeartbeats 1000000 in
theorem refUnread_sv {l:List Ttl}{al:Option Addr}{cl:Nat}{speed rate:Int}{h:Heap}(hl:RowsAt 3 TtlR h al l)(hF:∀x∈l,x.Fit)(hL:Len l)(hs:I64 speed)(hr:I64 rate):Sv Tryz.prog 32 [.slice al l.length cl,i64 speed,i64 rate] h (RetP (UnR l speed rate h)):=by
 refine Sv_wf fun hw=>?_
 refine Sv_enter Tryz.func32 rfl (by rw[Tryz.ntmps32];rfl) ?_;show Wc Tryz.prog ⟨32,62,none⟩ _ _ _ _ _
 refine zy ?_
 refine Wo_callV rfl rfl rfl rfl rfl Bod.h rfl rfl (refTitles_sv hl hF hL) ?_
 by_cases he:titlesErr l=0
 rotate_left
 ·have e:unErr l speed rate=titlesErr l:=by unfold unErr;rw[if_pos he]
  generalize titlesErr l=n at *
  refine zy ?_
  refine Wo_do rfl rfl rfl rfl (A_ff he (A_eql rfl rfl)) ?_
  refine zy ?_
  refine Wo_do rfl rfl rfl rfl (A_tt he (A_neq rfl rfl)) ?_
  refine zy ?_
  exact Wc_ret (Lv_ret rfl ⟨Ext.refl _,.inl ⟨by rw[e];exact he,by rw[e];rfl⟩⟩)
 have eU:unErr l speed rate=if (speed<1\/60<speed)\/(rate<1\/60<rate) then 7 else 0:=by unfold unErr;rw[if_neg (fun e=>e he)]
 obtain⟨hn,hx,-⟩:=titles_each he
 rw[he]
 refine zy ?_
 refine Wo_do rfl rfl rfl rfl (A_tt rfl (A_eql rfl rfl)) ?_
 refine zy ?_
 refine Wo_callP rfl rfl rfl rfl rfl Bod.h rfl rfl (in_sv _ _ _ _) (fun h2=>?_) (fun h2=>?_)
 rotate_left
 ·have:=of_decide_eq_false h2
  rw[if_pos (by omega)] at eU
  refine zy ?_
  refine Wo_do rfl rfl rfl rfl (A_tt (by decide) (A_neq rfl rfl)) ?_
  refine zy ?_
  exact Wc_ret (Lv_ret rfl ⟨Ext.refl _,.inl ⟨by rw[eU];decide,by rw[eU];rfl⟩⟩)
 replace h2:=of_decide_eq_true h2
 refine zy ?_
 refine Wo_callP rfl rfl rfl rfl rfl Bod.h rfl rfl (in_sv _ _ _ _) (fun h3=>?_) (fun h3=>?_)
 rotate_left
 ·have:=of_decide_eq_false h3
  rw[if_pos (by omega)] at eU
  refine zy ?_
  refine Wo_do rfl rfl rfl rfl (A_tt (by decide) (A_neq rfl rfl)) ?_
  refine zy ?_
  exact Wc_ret (Lv_ret rfl ⟨Ext.refl _,.inl ⟨by rw[eU];decide,by rw[eU];rfl⟩⟩)
 replace h3:=of_decide_eq_true h3
 rw[if_neg (by omega)] at eU
 refine zy ?_
 refine Wo_do rfl rfl rfl rfl (A_ff (by decide) (A_neq rfl rfl)) ?_
 refine zy ?_
 refine Wc_loop (fun (s:Nat×Value) m ds h'=>ds=[]/\s.1<=l.length/\Ext h h'/\Own h h' [slI h s.2 3 1 ((unreadK l speed rate s.1).map natV) (unreadK l speed rate s.1).length]/\AllK m [(0,.slice al l.length cl),(1,i64 speed),(2,i64 rate),(9,s.2),(10,i64 s.1)]) (fun s=>l.length-s.1) (0,.slice none 0 0) ?_ ?_
 ·exact⟨rfl,Nat.zero_le _,Ext.refl _,(Own.nil h h).nilSl 3 1,rfl,rfl,rfl,rfl,rfl,trivial⟩
 rintro⟨k,v⟩ m ds h4 ⟨rfl,hk,hE4,hO4,hall⟩
 simp only at hk hO4 hall
 refine Wc.le ?_ (Le.kn hall)
 refine zy ?_
 refine Wo_dec rfl rfl rfl rfl (A_lss rfl rfl) (fun h5=>?_) (fun h5=>?_)
 rotate_left
 ·have hk2:k=l.length:=by omega
  subst hk2
  rw[unreadK_all] at hO4
  have q1:=hO4.p1
  refine zy ?_
  exact Wc_ret (Lv_ret rfl ⟨hE4,.inr ⟨eU,v,rfl,q1⟩⟩)
 have hk':k<l.length:=by simpa using h5
 obtain⟨b,o,oa,rfl,row,hrow,hr'⟩:=hl k hk'
 obtain⟨x1,x2,x3,x4⟩:=hx _ (List.getElem_mem hk')
 have hsu:=unreadK_succ (speed:=speed) (rate:=rate) hk'
 have hln:=unreadK_len (l:=l) (speed:=speed) (rate:=rate) (k:=k)
 have x5:=text_len x4
 generalize l[k]=x at *
 obtain rfl:=hr'
 replace hrow:=hE4.row hrow
 have z0:cellAt h4 b (o+k*3+0)=some (i64 x.a):=cell_of_row hrow rfl
 have z1:cellAt h4 b (o+k*3+1)=some (i64 x.b):=cell_of_row hrow rfl
 have z2:cellAt h4 b (o+k*3+2)=some (str x.text):=cell_of_row hrow rfl
 unfold unreadB at hsu
 have hm1:=mul_rng (a:=(x.text.length:Int)) (b:=speed) (A:=80) (B:=60) (by omega) (by omega) (by omega) (by omega)
 have hm2:=mul_rng (a:=rate) (b:=x.b-x.a+1) (A:=60) (B:=200000) (by omega) (by omega) (by omega) (by omega)
 generalize hM1:(x.text.length:Int)*speed=M1 at *
 generalize hM2:rate*(x.b-x.a+1)=M2 at *
 refine zy ?_
 by_cases h8:M2<M1
 ·rw[if_pos (decide_eq_true h8)] at hsu
  generalize unreadK l speed rate k=U at *
  have hul:(U++[k]).length=U.length+1:=by simp
  have hum:(U++[k]).map natV=U.map natV++[i64 (k:Int)]:=by rw[List.map_append];rfl
  refine Wc_draw hmix [0,0,3,7,15,31,0,127,0,0,0,1536,3584,7680,0,0,49152,114688,245760,523776,1048064,2096896,4194303] [0,1,2,3,4,5,6,7,8,9,10,11,12,13,14,15,16,17,18,19,20,21,22] none [] (by kernel_rfl) (by kernel_rfl) ?_
  refine z_m ?_;refine z_m ?_;refine z_i ?_;refine z_f ?_;refine z_l ?_;refine z_d ?_;refine z_m ?_;refine Wp_pure rfl rfl rfl rfl rfl (fun _=>A_mulV rfl rfl hM1 (by omega) (by omega)) ?_;refine z_m ?_;refine z_m ?_;refine z_m ?_;refine z_i ?_;refine z_f ?_;refine z_l ?_;refine z_m ?_;refine z_m ?_;refine z_i ?_;refine z_f ?_;refine z_l ?_;refine z_u ?_;refine z_y ?_;refine Wp_pure rfl rfl rfl rfl rfl (fun _=>A_mulV rfl rfl hM2 (by omega) (by omega)) ?_;refine Wp_pure rfl rfl rfl rfl rfl (fun _=>A_tt h8 (A_gtr rfl rfl)) ?_
  refine Wp_end (Stl_nil rfl) nb' ?_
  refine zy ?_
  refine Wo_bs rfl rfl Und.h Tsz.h Zr.h rfl rfl rfl rfl rfl fun h9 hE9 hW9 hg9 hn9=>?_
  refine Wo_appendO (k:=1) (l:=[i64 (k:Int)]) hw (hE4.trans hE9) rfl rfl rfl rfl rfl Und.h inferInstance rfl rfl (hO4.ext hE9) (asrc_row Und.h (by intro k;simp) (rowAt_cells hg9 rfl)) rfl rfl (by omega) (by omega) fun va ha hWa hOa hEa=>?_
  rw[<-hul,<-hum] at hOa
  refine zy ?_
  refine⟨(k+1,va),(by show l.length-(k+1)<l.length-k;omega),rfl,hk',hEa,?_,rfl,rfl,rfl,rfl,rfl,trivial⟩
  simp only[hsu];exact hOa
 ·rw[if_neg (by rw[decide_eq_false h8];simp)] at hsu
  refine Wc_draw hmix [0,0,3,7,15,31,0,127,0,0,0,1536,3584,7680,0,0,49152,114688,245760,523776,1048064,2096896,4194303] [0,1,2,3,4,5,6,7,8,9,10,11,12,13,14,15,16,17,18,19,20,21,22] none [] (by kernel_rfl) (by kernel_rfl) ?_
  refine z_m ?_;refine z_m ?_;refine z_i ?_;refine z_f ?_;refine z_l ?_;refine z_d ?_;refine z_m ?_;refine Wp_pure rfl rfl rfl rfl rfl (fun _=>A_mulV rfl rfl hM1 (by omega) (by omega)) ?_;refine z_m ?_;refine z_m ?_;refine z_m ?_;refine z_i ?_;refine z_f ?_;refine z_l ?_;refine z_m ?_;refine z_m ?_;refine z_i ?_;refine z_f ?_;refine z_l ?_;refine z_u ?_;refine z_y ?_;refine Wp_pure rfl rfl rfl rfl rfl (fun _=>A_mulV rfl rfl hM2 (by omega) (by omega)) ?_;refine Wp_pure rfl rfl rfl rfl rfl (fun _=>A_ff h8 (A_gtr rfl rfl)) ?_
  refine Wp_end (Stl_nil rfl) nb' ?_
  refine zy ?_
  refine⟨(k+1,v),(by show l.length-(k+1)<l.length-k;omega),rfl,hk',hE4,?_,rfl,rfl,rfl,rfl,rfl,trivial⟩
  simp only[hsu];exact hO4
end Go.Dw
/- T3: contracts: subtitles as they stand after cuts; lists compared. -/
namespace Go.Dw
open Go Go.Dx Go.Proofs
set_option maxRecDepth 100000
def ttVs (x:Ttl):List Value:=[i64 x.a,i64 x.b,str x.text]
theorem ttRows_len (l:List Ttl):(l.flatMap ttVs).length=l.length*3:=by
 induction l with
 | nil=>rfl
 | cons x l ih=>rw[List.flatMap_cons,List.length_append,ih,List.length_cons];show 3+_=_;omega
theorem ttRows_at {h0 h:Heap}{v:Value}{P:List Ttl}(hF:FreshSl h0 h v 75 3 (P.flatMap ttVs) P.length):∃a c,v=.slice a P.length c/\RowsAt 3 TtlR h a P:=by
 rcases hF with ⟨rfl,_,h0⟩|⟨b,sp,op,rfl,hg,_⟩
 ·rw[h0]
  exact⟨none,0,rfl,fun i hi=>absurd hi (by omega)⟩
 ·refine⟨some ⟨b,0,sp⟩,P.length,rfl,fun i hi=>⟨b,0,sp,rfl,_,rowAt_cells hg ?_,rfl⟩⟩
  rw[Nat.zero_add]
  exact cut_flat (f:=ttVs) (k:=3) hi fun _ _=>rfl
theorem ttRows_set (R:List Ttl)(p q m:Int)(tx:List UInt8):((R++[(⟨p,q,tx⟩:Ttl)]).flatMap ttVs).set (R.length*3+1) (i64 m)=(R++[(⟨p,m,tx⟩:Ttl)]).flatMap ttVs:=by
 rw[List.flatMap_append,List.flatMap_append,List.set_append_right _ _ (by rw[ttRows_len];omega),ttRows_len,show R.length*3+1-R.length*3=1 by omega]
 rfl
theorem cutGo_vals:∀{l:List Cut}{n:Int},(cutGo n l).2=0\/(cutGo n l).2=7\/(cutGo n l).2=2
 | [],_=>.inl rfl
 | c::cs,n=>by
  by_cases h:(c.a<0\/n-1<c.a)\/(c.b<0\/n-1<c.b)
  ·rw[cutGo_bad h];exact .inr (.inl rfl)
  ·by_cases h2:c.b<c.a
   ·rw[cutGo_arg h h2];exact .inr (.inr rfl)
   ·rw[cutGo_on h h2];exact cutGo_vals
theorem cutS_ne4 {n:Int}{cs:List Cut}:(cutS n cs).2≠4:=by
 unfold cutS
 split
 ·decide
 ·split
  ·decide
  ·rcases cutGo_vals (l:=cs) (n:=n) with e|e|e <;> rw[e] <;> decide
theorem after0_bad {n:Int}{cs:List Cut}(h:¬(cutS n cs).2=0):(afterV n cs 0).2=(cutS n cs).2:=by unfold afterV;rw[if_pos h]
theorem after_at {n i:Int}{cs:List Cut}(h:(cutS n cs).2=0)(h0:0<=i)(h1:i<n):afterV n cs i=match afterC cs i with|none=>((0:Int),(4:Int))|some m=>(m,(0:Int)):=by
 rw[afterV_on h,if_neg (by omega)];rfl
theorem after0_ok {n:Int}{cs:List Cut}(h:(cutS n cs).2=0):(afterV n cs 0).2=0\/(afterV n cs 0).2=4:=by
 obtain⟨h1,-⟩:=cutS_ok h
 rw[after_at h (Int.le_refl 0) (by omega)]
 split
 ·exact .inr rfl
 ·exact .inl rfl
def retErr (n:Int)(cs:List Cut)(l:List Ttl):Int:=if (cutS n cs).2≠0 then (cutS n cs).2 else if titlesErr l≠0 then titlesErr l else if (l.any fun x=>decide (n<=x.b))=true then 7 else 0
theorem ret_ok {n:Int}{cs:List Cut}{l:List Ttl}(h:retErr n cs l=0):(cutS n cs).2=0/\titlesErr l=0/\∀x∈l,x.b<n:=by
 unfold retErr at h
 split at h
 ·rename_i h1;exact absurd h h1
 rename_i h1
 split at h
 ·rename_i h2;exact absurd h h2
 rename_i h2
 split at h
 ·cases h
 rename_i h3
 refine⟨Decidable.not_not.1 h1,Decidable.not_not.1 h2,fun x hx=>?_⟩
 have:¬n<=x.b:=fun e=>h3 (List.any_eq_true.2 ⟨x,hx,decide_eq_true e⟩)
 omega
theorem pair_last:∀{l:List Ttl},l.Pairwise (fun x y=>x.b<y.a)->(∀x∈l,x.a<=x.b)->∀{i:Nat}(hi:i<l.length),l[i].b<=(l[l.length-1]'(by omega)).b:=by
 intro l hp hv i hi
 rcases Nat.lt_or_ge i (l.length-1) with g|g
 ·have h1:=List.pairwise_iff_getElem.1 hp i (l.length-1) hi (by omega) g
  have h2:=hv _ (List.getElem_mem (show l.length-1<l.length by omega))
  omega
 ·have:i=l.length-1:=by omega
  subst this
  exact Int.le_refl _
theorem last_any {n:Int}{l:List Ttl}(hp:l.Pairwise (fun x y=>x.b<y.a))(hv:∀x∈l,x.a<=x.b)(h0:0<l.length):(l.any fun x=>decide (n<=x.b))=decide (n<=(l[l.length-1]'(by omega)).b):=by
 rw[Bool.eq_iff_iff,decide_eq_true_eq,List.any_eq_true]
 constructor
 ·rintro⟨x,hx,e⟩
  obtain⟨i,hi,rfl⟩:=List.getElem_of_mem hx
  have:=pair_last hp hv hi
  have e':=of_decide_eq_true e
  omega
 ·intro e
  exact⟨_,List.getElem_mem (by omega),decide_eq_true e⟩
def curT (cs:List Cut)(x:Ttl)(f:Nat):List Ttl:=if cntC cs x.a.toNat<cntC cs f then [⟨(cntC cs x.a.toNat:Nat),(cntC cs f:Nat)-1,x.text⟩] else []
theorem curT_0 (cs:List Cut)(x:Ttl):curT cs x x.a.toNat=[]:=by unfold curT;rw[if_neg (Nat.lt_irrefl _)]
theorem curT_end {cs:List Cut}{x:Ttl}{f:Nat}(hf:f=x.b.toNat+1):curT cs x f=(retime1 cs x).toList:=by
 subst hf
 unfold curT retime1
 split <;> rfl
theorem retimeS_snoc (cs:List Cut)(l:List Ttl)(x:Ttl):retimeS cs (l++[x])=retimeS cs l++(retime1 cs x).toList:=by
 unfold retimeS
 rw[List.filterMap_append]
 cases h:retime1 cs x <;> simp[h]
theorem retimeS_len (cs:List Cut)(l:List Ttl):(retimeS cs l).length<=l.length:=List.length_filterMap_le _ _
def RetR (n:Int)(cs:List Cut)(l:List Ttl)(h:Heap)(v:Value)(h':Heap):Prop:=Ext h h'/\((¬retErr n cs l=0/\v=.tuple ⟨[.slice none 0 0,i64 (retErr n cs l)]⟩)\/(retErr n cs l=0/\∃va,v=.tuple ⟨[va,i64 0]⟩/\FreshSl h h' va 75 3 ((retimeS cs l).flatMap ttVs) (retimeS cs l).length))
set_option maxHeartbeats 4000000 in
theorem scRetime_sv {n:Int}{cs:List Cut}{l:List Ttl}{ac al:Option Addr}{cc cl:Nat}{h:Heap}(hI:I64 n)(hcs:RowsAt 2 CutR h ac cs)(hcF:∀c∈cs,c.Fit)(hcL:Len cs)(hl:RowsAt 3 TtlR h al l)(hF:∀x∈l,x.Fit)(hL:Len l)(hLib:LibAt h):Sv Tryz.prog 28 [i64 n,.slice ac cs.length cc,.slice al l.length cl] h (RetP (RetR n cs l h)):=by
 refine Sv_wf fun hw=>?_
 refine Sv_enter Tryz.func28 rfl (by rw[Tryz.ntmps28];rfl) ?_;show Wc Tryz.prog ⟨28,89,none⟩ _ _ _ _ _
 refine zy ?_
 refine Wo_callE rfl rfl rfl rfl rfl Bod.h rfl rfl (after_sv hI (by decide) hcs hcF hcL) fun h1 hE1=>?_
 by_cases hc0:(cutS n cs).2=0
 rotate_left
 ·have e:retErr n cs l=(cutS n cs).2:=by unfold retErr;rw[if_pos hc0]
  have e4:=cutS_ne4 (n:=n) (cs:=cs)
  rw[after0_bad hc0]
  generalize (cutS n cs).2=q at *
  refine zy ?_
  refine Wo_do rfl rfl rfl rfl (A_tt hc0 (A_neq rfl rfl)) ?_
  refine zy ?_
  refine Wo_do rfl rfl rfl rfl (A_tt e4 (A_neq rfl rfl)) ?_
  refine zy ?_
  exact Wc_ret (Lv_ret rfl ⟨hE1,.inl ⟨by rw[e];exact hc0,by rw[e];rfl⟩⟩)
 have hafter:=fun {i:Nat} (h1:(i:Int)<n)=>after_at (i:=(i:Int)) hc0 (by omega) h1
 have h04:=after0_ok hc0
 obtain⟨n1,n2,n3,hok⟩:=cutS_ok hc0
 have hce:=cuts_each hok
 have er:retErr n cs l=if titlesErr l≠0 then titlesErr l else if (l.any fun x=>decide (n<=x.b))=true then 7 else 0:=by unfold retErr;rw[if_neg (fun e=>e hc0)]
 rcases h04 with e04|e04
 ·rw[e04]
  refine zy ?_
  refine Wo_do rfl rfl rfl rfl (A_ff (by decide) (A_neq rfl rfl)) ?_
  refine zy ?_
  refine Wo_callE rfl rfl rfl rfl rfl Bod.h rfl rfl (strange_sv (RowsAt.ext (R:=TtlR) (fun x _=>x) hl hE1) hF hL (hLib.ext hE1)) fun h2 hE2=>?_
  have hE:=hE1.trans hE2
  by_cases ht:titlesErr l=0
  rotate_left
  ·rw[if_pos ht] at er
   generalize titlesErr l=q at *
   refine zy ?_
   refine Wo_do rfl rfl rfl rfl (A_tt ht (A_neq rfl rfl)) ?_
   refine zy ?_
   exact Wc_ret (Lv_ret rfl ⟨hE,.inl ⟨by rw[er];exact ht,by rw[er];rfl⟩⟩)
  rw[if_neg (fun e=>e ht)] at er
  obtain⟨hn40,hx,hpw⟩:=titles_each ht
  rw[ht]
  refine zy ?_
  refine Wo_do rfl rfl rfl rfl (A_ff (by decide) (A_neq rfl rfl)) ?_
  refine zy ?_
  by_cases hl0:0<l.length
  ·have hla:=last_any (n:=n) hpw (fun x h=>(hx x h).2.1) hl0
   obtain⟨bl,ol,oal,rfl,rowl,hrl,hrr⟩:=hl (l.length-1) (by omega)
   have zl:cellAt h2 bl (ol+(l.length-1)*3+1)=some (i64 (l[l.length-1]'(by omega)).b):=hE.cell (cell_of_row hrl (by obtain rfl:=hrr;rfl))
   rw[hla] at er
   generalize (l[l.length-1]'(by omega)).b=lb at *
   refine Wo_do rfl rfl rfl rfl (A_tt (by omega) (A_gtr rfl rfl)) ?_
   refine zy ?_
   refine Wo_do rfl rfl rfl rfl (A_indexAddr (k:=l.length-1) Und.h Tsz.h rfl rfl (by omega) (by omega)) ?_
   refine zy ?_
   by_cases hge:n<=lb
   ·rw[if_pos (decide_eq_true hge)] at er
    refine Wo_do rfl rfl rfl rfl (A_tt hge (A_geq rfl rfl)) ?_
    refine zy ?_
    exact Wc_ret (Lv_ret rfl ⟨hE,.inl ⟨by rw[er];decide,by rw[er];rfl⟩⟩)
   rw[if_neg (by rw[decide_eq_false hge];simp)] at er
   refine Wo_do rfl rfl rfl rfl (A_ff hge (A_geq rfl rfl)) ?_
   refine zy ?_
   have hbn:∀x∈l,x.b<n:=(ret_ok er).2.2
   refine Wc_wf fun hw2=>?_
   refine Wc_loop (fun (s:Nat×Value) m ds h'=>ds=[]/\s.1<=l.length/\Ext h2 h'/\Own h2 h' [slI h2 s.2 75 3 ((retimeS cs (l.take s.1)).flatMap ttVs) (retimeS cs (l.take s.1)).length] ∧
     AllK m [(0,i64 n),(1,.slice ac cs.length cc),(6,s.2),(46,.slice (some ⟨bl,ol,oal⟩) l.length cl),(47,i64 l.length),(48,i64 s.1)]) (fun s=>l.length-s.1) (0,.slice none 0 0) ?_ ?_
   ·exact⟨rfl,Nat.zero_le _,Ext.refl _,(Own.nil h2 h2).nilSl 75 3,rfl,rfl,rfl,rfl,rfl,rfl,trivial⟩
   rintro⟨k,v⟩ m ds h3 ⟨rfl,hk,hE3,hO3,hall⟩
   simp only at hk hO3 hall
   refine Wc_wf fun hw3=>?_
   refine Wc.le ?_ (Le.kn hall)
   refine zy ?_
   refine Wo_dec rfl rfl rfl rfl (A_lss rfl rfl) (fun h4=>?_) (fun h4=>?_)
   rotate_left
   ·have hk2:k=l.length:=by omega
    subst hk2
    rw[List.take_length] at hO3
    have q1:=hO3.p1
    have hb1:=hE.2.1
    refine zy ?_
    exact Wc_ret (Lv_ret rfl ⟨hE.trans hE3,.inr ⟨er,v,rfl,FreshSl.base q1 hb1⟩⟩)
   have hk':k<l.length:=by simpa using h4
   obtain⟨b0,o0,oa0,e0,row,hrow,hr'⟩:=hl k hk'
   cases e0
   obtain⟨x1,x2,x3,-⟩:=hx _ (List.getElem_mem hk')
   have x4:=hbn _ (List.getElem_mem hk')
   have htk:l.take (k+1)=l.take k++[l[k]]:=by rw[List.take_add_one,List.getElem?_eq_getElem hk'];rfl
   have hrs:=retimeS_snoc cs (l.take k) l[k]
   rw[<-htk] at hrs
   have hrl0:=retimeS_len cs (l.take k)
   rw[List.length_take] at hrl0
   generalize l[k]=x at *
   obtain rfl:=hr'
   replace hrow:=(hE.trans hE3).row hrow
   generalize retimeS cs (l.take k)=R at *
   refine zy ?_
   refine Wo_do rfl rfl rfl rfl (A_ix Und.h Tsz.h rfl rfl) ?_
   refine zy ?_
   refine Wo_allocStore rfl rfl Zr.h Tsz.h rfl (fun _=>rfl) rfl rfl rfl fun h5 hE5 hW5 hg5 hn5=>?_
   have hO5:=(hO3.newCe hw3 hE3.2.1 hE5 hg5 (Nat.le_refl _))
   replace hE3:=hE3.trans hE5
   generalize h3.nx=b9 at *
   clear hrow hn5 hE5 hO3 hw3
   clear h3
   refine zy ?_
   have hxa:(x.a.toNat:Int)=x.a:=Int.toNat_of_nonneg x1
   refine Wc.mono (Q:=fun z m' ds' h'=>z=.exit 2/\ds'=[]/\Ext h2 h'/\∃v',Own h2 h' [ceI b9 [i64 x.a,i64 x.b,str x.text] 75 false,slI h2 v' 75 3 ((R++curT cs x (x.b.toNat+1)).flatMap ttVs) (R++curT cs x (x.b.toNat+1)).length]/\AllK m' [(0,i64 n),(1,.slice ac cs.length cc),(6,v'),(46,.slice (some ⟨bl,ol,oal⟩) l.length cl),(47,i64 l.length),(48,i64 k)])
    (Wc_loop (fun (s:Nat×Value) m ds h'=>ds=[]/\x.a.toNat<=s.1/\s.1<=x.b.toNat+1/\Ext h2 h'/\Own h2 h' [ceI b9 [i64 x.a,i64 x.b,str x.text] 75 false,slI h2 s.2 75 3 ((R++curT cs x s.1).flatMap ttVs) (R++curT cs x s.1).length]/\AllK m [(0,i64 n),(1,.slice ac cs.length cc),(6,s.2),(9,.pointer (some ⟨b9,0,none⟩)),(10,i64 ((cntC cs s.1:Int)-cntC cs x.a.toNat)),(11,i64 s.1),(46,.slice (some ⟨bl,ol,oal⟩) l.length cl),(47,i64 l.length),(48,i64 k)])
     (fun s=>x.b.toNat+1-s.1) (x.a.toNat,v) ?_ ?_) ?_
   ·refine⟨rfl,Nat.le_refl _,by show x.a.toNat<=x.b.toNat+1;omega,hE3,?_,rfl,rfl,rfl,rfl,?_,?_,rfl,rfl,rfl,trivial⟩
    ·rw[curT_0,List.append_nil];exact hO5
    ·rw[Int.sub_self];rfl
    ·rw[hxa];rfl
   rotate_left
   ·rintro _ m' ds' h6 ⟨rfl,rfl,hE6,v',hO6,hall⟩
    show Wc _ _ _ _ _ _ _
    refine Wc.le ?_ (Le.kn hall)
    rw[curT_end rfl,<-hrs] at hO6
    refine zy ?_
    exact⟨(k+1,v'),(by show l.length-(k+1)<l.length-k;omega),rfl,hk',hE6,hO6.tail,rfl,rfl,rfl,rfl,rfl,rfl,trivial⟩
   clear hE3 hO5 hW5 hall hg5
   clear h5
   rintro⟨f,u⟩ m ds h5 ⟨rfl,hf1,hf2,hE5,hO5,hall⟩
   simp only at hf1 hf2 hO5 hall
   refine Wc_wf fun hw5=>?_
   have hg5:h5.get b9=some (.cells [i64 x.a,i64 x.b,str x.text] 75 false):=hO5.p1
   have hcm:=cntC_mono cs hf1
   have hcs1:=cntC_succ cs f
   have hci:=fun {m:Int}=>after_cnt hce (i:=f) (n:=m)
   refine Wc.le ?_ (Le.kn hall)
   refine zy ?_
   refine Wo_dec rfl rfl rfl rfl (A_leq rfl rfl) (fun h6=>?_) (fun h6=>?_)
   rotate_left
   ·have hf3:f=x.b.toNat+1:=by omega
    subst hf3
    refine zy ?_
    exact⟨rfl,rfl,hE5,u,hO5,rfl,rfl,rfl,rfl,rfl,rfl,trivial⟩
   have hfn:(f:Int)<n:=by omega
   have haf:=after_sv hI (show I64 (f:Int) from⟨by omega,by omega⟩) (RowsAt.ext (R:=CutR) (fun x _=>x) hcs (hE.trans hE5)) hcF hcL (cc:=cc)
   rw[hafter hfn] at haf
   cases hA:afterC cs (f:Int) with
   | none =>
    rw[hA] at haf hcs1
    have hcs2:cntC cs (f+1)=cntC cs f:=hcs1
    have hcu:curT cs x (f+1)=curT cs x f:=by unfold curT;rw[hcs2]
    refine zy ?_
    refine Wo_callE rfl rfl rfl rfl rfl Bod.h rfl rfl (by exact haf) fun h7 hE7=>?_
    refine zy ?_
    refine Wo_do rfl rfl rfl rfl (A_tt (by decide) (A_neq rfl rfl)) ?_
    refine zy ?_
    refine⟨(f+1,u),(by show x.b.toNat+1-(f+1)<x.b.toNat+1-f;omega),rfl,by show _<=f+1;omega,by show f+1<=_;omega,hE5.trans hE7,?_,rfl,rfl,rfl,rfl,?_,rfl,rfl,rfl,rfl,trivial⟩
    ·rw[hcu];exact hO5.ext hE7
    ·rw[hcs2];rfl
   | some m =>
    rw[hA] at haf hcs1
    have hcs2:cntC cs (f+1)=cntC cs f+1:=hcs1
    have hm:=hci hA
    have hcle:cntC cs f<=f:=by
     unfold cntC
     have:=List.length_filter_le (fun j:Nat=>(afterC cs (j:Int)).isSome) (List.range f)
     rwa [List.length_range] at this
    refine zy ?_
    refine Wo_callE rfl rfl rfl rfl rfl Bod.h rfl rfl (by exact haf) fun h7 hE7=>?_
    have hO7:=hO5.ext hE7
    have hE57:=hE5.trans hE7
    have g7:=hE7.get hg5
    clear haf
    refine zy ?_
    refine Wo_do rfl rfl rfl rfl (A_ff (by exact fun e=>e rfl) (A_neq rfl rfl)) ?_
    refine zy ?_
    by_cases hz:(cntC cs f:Int)-cntC cs x.a.toNat=0
    ·have hcu:curT cs x f=[]:=by unfold curT;rw[if_neg (by omega)]
     have hcu2:curT cs x (f+1)=[⟨(cntC cs x.a.toNat:Nat),m,x.text⟩]:=by
      unfold curT
      rw[if_pos (by omega),hcs2,hm]
      congr 2
      omega
     have hma:m=(cntC cs x.a.toNat:Nat):=by omega
     rw[hcu,List.append_nil] at hO7
     refine Wo_do rfl rfl rfl rfl (A_tt hz (A_eql rfl rfl)) ?_
     refine zy ?_
     refine Wo_bs rfl rfl Und.h Tsz.h Zr.h rfl rfl rfl rfl rfl fun h8 hE8 hW8 hg8 hn8=>?_
     have hrl:(R++[(⟨m,0,x.text⟩:Ttl)]).length=R.length+1:=by simp
     have hrm:(R++[(⟨m,0,x.text⟩:Ttl)]).flatMap ttVs=R.flatMap ttVs++[i64 m,i64 0,str x.text]:=by rw[List.flatMap_append];rfl
     refine Wo_appendO (k:=1) (l:=[i64 m,i64 0,str x.text]) hw2 (hE57.trans hE8) rfl rfl rfl rfl rfl Und.h inferInstance rfl rfl ((hO7.ext hE8).pick 1 rfl) (asrc_row Und.h (by intro k;simp) (rowAt_cells hg8 rfl)) rfl rfl (by omega) (by omega) fun va ha hWa hOa hEa=>?_
     rw[<-hrl,<-hrm] at hOa
     obtain⟨bu,spu,opu,rfl,gu,-,-⟩:=FreshSl.blk (show FreshSl h2 ha va 75 3 _ _ from hOa.p1) (by rw[hrl];exact Nat.succ_pos _)
     have hset:=ttRows_set R m 0 m x.text
     refine zy ?_
     refine Wo_do rfl rfl rfl rfl (A_indexAddr (k:=R.length) Und.h Tsz.h rfl rfl (by rw[hrl];omega) (by rw[hrl];omega)) ?_
     refine zy ?_
     refine Wo_store rfl Tsz.h rfl rfl gu rfl rfl (by exact lay_one (by rw[ttRows_len,hrl];omega)) fun hb hUb=>?_
     rw[Nat.zero_add,hset] at hUb
     obtain⟨hOb,hEb⟩:=hOa.setSlK hWa hEa hw2 hUb (by rw[ttRows_len,ttRows_len];simp)
     have hOc:=hOb.unpick 1 (Nat.le_of_ble_eq_true rfl)
     refine zy ?_
     refine⟨(f+1,_),(by show x.b.toNat+1-(f+1)<x.b.toNat+1-f;omega),rfl,by show _<=f+1;omega,by show f+1<=_;omega,hEb,?_,rfl,rfl,rfl,rfl,?_,rfl,rfl,rfl,rfl,trivial⟩
     ·rw[hcu2]
      simp only[List.length_append,List.length_singleton] at hOc ⊢
      rw[<-hma]
      exact hOc
     ·rw[hcs2,show ((cntC cs f+1:Nat):Int)-cntC cs x.a.toNat=(cntC cs f:Int)-cntC cs x.a.toNat+1 by omega];rfl
    ·have hcu:curT cs x f=[⟨(cntC cs x.a.toNat:Nat),(cntC cs f:Nat)-1,x.text⟩]:=by unfold curT;rw[if_pos (by omega)]
     have hcu2:curT cs x (f+1)=[⟨(cntC cs x.a.toNat:Nat),m,x.text⟩]:=by
      unfold curT
      rw[if_pos (by omega),hcs2,hm]
      congr 2
      omega
     rw[hcu] at hO7
     have hOa:=hO7.pick 1 rfl
     have hrl:(R++[(⟨(cntC cs x.a.toNat:Nat),(cntC cs f:Nat)-1,x.text⟩:Ttl)]).length=R.length+1:=by simp
     obtain⟨bu,spu,opu,rfl,gu,-,-⟩:=FreshSl.blk (show FreshSl h2 h7 u 75 3 _ _ from hOa.p1) (by rw[hrl];exact Nat.succ_pos _)
     have hset:=ttRows_set R (cntC cs x.a.toNat:Nat) ((cntC cs f:Nat)-1) m x.text
     refine Wo_do rfl rfl rfl rfl (A_ff hz (A_eql rfl rfl)) ?_
     refine Wo_wf fun hw7=>?_
     refine zy ?_
     refine Wo_do rfl rfl rfl rfl (A_indexAddr (k:=R.length) Und.h Tsz.h rfl rfl (by rw[hrl];omega) (by rw[hrl];omega)) ?_
     refine zy ?_
     refine Wo_store rfl Tsz.h rfl rfl gu rfl rfl (by exact lay_one (by rw[ttRows_len,hrl];omega)) fun hb hUb=>?_
     rw[Nat.zero_add,hset] at hUb
     obtain⟨hOb,hEb⟩:=hOa.setSlK hw7 hE57 hw2 hUb (by rw[ttRows_len,ttRows_len];simp)
     have hOc:=hOb.unpick 1 (Nat.le_of_ble_eq_true rfl)
     refine zy ?_
     refine⟨(f+1,_),(by show x.b.toNat+1-(f+1)<x.b.toNat+1-f;omega),rfl,by show _<=f+1;omega,by show f+1<=_;omega,hEb,?_,rfl,rfl,rfl,rfl,?_,rfl,rfl,rfl,rfl,trivial⟩
     ·rw[hcu2]
      simp only[List.length_append,List.length_singleton] at hOc ⊢
      exact hOc
     ·rw[hcs2,show ((cntC cs f+1:Nat):Int)-cntC cs x.a.toNat=(cntC cs f:Int)-cntC cs x.a.toNat+1 by omega];rfl
  ·have hle:l=[]:=List.eq_nil_of_length_eq_zero (by omega)
   subst hle
   have er0:retErr n cs []=0:=er
   refine Wo_do rfl rfl rfl rfl (A_ff (by omega) (A_gtr rfl rfl)) ?_
   refine zy ?_
   refine Wc_loop (fun (_:Unit) m ds h'=>ds=[]/\h2=h'/\AllK m [(6,.slice none 0 0),(47,i64 0),(48,i64 0)]) (fun _=>0) () ⟨rfl,rfl,rfl,rfl,rfl,trivial⟩ ?_
   rintro _ m ds h' ⟨rfl,rfl,hall⟩
   refine Wc.le ?_ (Le.kn hall)
   refine zy ?_
   refine Wo_do rfl rfl rfl rfl (A_ff (by decide) (A_lss rfl rfl)) ?_
   refine zy ?_
   exact Wc_ret (Lv_ret rfl ⟨hE,.inr ⟨er0,.slice none 0 0,rfl,FreshSl.nil _ _ _ _⟩⟩)
 ·rw[e04]
  refine zy ?_
  refine Wo_do rfl rfl rfl rfl (A_tt (by decide) (A_neq rfl rfl)) ?_
  refine zy ?_
  refine Wo_do rfl rfl rfl rfl (A_ff (by decide) (A_neq rfl rfl)) ?_
  refine zy ?_
  refine Wo_callE rfl rfl rfl rfl rfl Bod.h rfl rfl (strange_sv (RowsAt.ext (R:=TtlR) (fun x _=>x) hl hE1) hF hL (hLib.ext hE1)) fun h2 hE2=>?_
  have hE:=hE1.trans hE2
  by_cases ht:titlesErr l=0
  rotate_left
  ·rw[if_pos ht] at er
   generalize titlesErr l=q at *
   refine zy ?_
   refine Wo_do rfl rfl rfl rfl (A_tt ht (A_neq rfl rfl)) ?_
   refine zy ?_
   exact Wc_ret (Lv_ret rfl ⟨hE,.inl ⟨by rw[er];exact ht,by rw[er];rfl⟩⟩)
  rw[if_neg (fun e=>e ht)] at er
  obtain⟨hn40,hx,hpw⟩:=titles_each ht
  rw[ht]
  refine zy ?_
  refine Wo_do rfl rfl rfl rfl (A_ff (by decide) (A_neq rfl rfl)) ?_
  refine zy ?_
  by_cases hl0:0<l.length
  ·have hla:=last_any (n:=n) hpw (fun x h=>(hx x h).2.1) hl0
   obtain⟨bl,ol,oal,rfl,rowl,hrl,hrr⟩:=hl (l.length-1) (by omega)
   have zl:cellAt h2 bl (ol+(l.length-1)*3+1)=some (i64 (l[l.length-1]'(by omega)).b):=hE.cell (cell_of_row hrl (by obtain rfl:=hrr;rfl))
   rw[hla] at er
   generalize (l[l.length-1]'(by omega)).b=lb at *
   refine Wo_do rfl rfl rfl rfl (A_tt (by omega) (A_gtr rfl rfl)) ?_
   refine zy ?_
   refine Wo_do rfl rfl rfl rfl (A_indexAddr (k:=l.length-1) Und.h Tsz.h rfl rfl (by omega) (by omega)) ?_
   refine zy ?_
   by_cases hge:n<=lb
   ·rw[if_pos (decide_eq_true hge)] at er
    refine Wo_do rfl rfl rfl rfl (A_tt hge (A_geq rfl rfl)) ?_
    refine zy ?_
    exact Wc_ret (Lv_ret rfl ⟨hE,.inl ⟨by rw[er];decide,by rw[er];rfl⟩⟩)
   rw[if_neg (by rw[decide_eq_false hge];simp)] at er
   refine Wo_do rfl rfl rfl rfl (A_ff hge (A_geq rfl rfl)) ?_
   refine zy ?_
   have hbn:∀x∈l,x.b<n:=(ret_ok er).2.2
   refine Wc_wf fun hw2=>?_
   refine Wc_loop (fun (s:Nat×Value) m ds h'=>ds=[]/\s.1<=l.length/\Ext h2 h'/\Own h2 h' [slI h2 s.2 75 3 ((retimeS cs (l.take s.1)).flatMap ttVs) (retimeS cs (l.take s.1)).length] ∧
     AllK m [(0,i64 n),(1,.slice ac cs.length cc),(6,s.2),(46,.slice (some ⟨bl,ol,oal⟩) l.length cl),(47,i64 l.length),(48,i64 s.1)]) (fun s=>l.length-s.1) (0,.slice none 0 0) ?_ ?_
   ·exact⟨rfl,Nat.zero_le _,Ext.refl _,(Own.nil h2 h2).nilSl 75 3,rfl,rfl,rfl,rfl,rfl,rfl,trivial⟩
   rintro⟨k,v⟩ m ds h3 ⟨rfl,hk,hE3,hO3,hall⟩
   simp only at hk hO3 hall
   refine Wc_wf fun hw3=>?_
   refine Wc.le ?_ (Le.kn hall)
   refine zy ?_
   refine Wo_dec rfl rfl rfl rfl (A_lss rfl rfl) (fun h4=>?_) (fun h4=>?_)
   rotate_left
   ·have hk2:k=l.length:=by omega
    subst hk2
    rw[List.take_length] at hO3
    have q1:=hO3.p1
    have hb1:=hE.2.1
    refine zy ?_
    exact Wc_ret (Lv_ret rfl ⟨hE.trans hE3,.inr ⟨er,v,rfl,FreshSl.base q1 hb1⟩⟩)
   have hk':k<l.length:=by simpa using h4
   obtain⟨b0,o0,oa0,e0,row,hrow,hr'⟩:=hl k hk'
   cases e0
   obtain⟨x1,x2,x3,-⟩:=hx _ (List.getElem_mem hk')
   have x4:=hbn _ (List.getElem_mem hk')
   have htk:l.take (k+1)=l.take k++[l[k]]:=by rw[List.take_add_one,List.getElem?_eq_getElem hk'];rfl
   have hrs:=retimeS_snoc cs (l.take k) l[k]
   rw[<-htk] at hrs
   have hrl0:=retimeS_len cs (l.take k)
   rw[List.length_take] at hrl0
   generalize l[k]=x at *
   obtain rfl:=hr'
   replace hrow:=(hE.trans hE3).row hrow
   generalize retimeS cs (l.take k)=R at *
   refine zy ?_
   refine Wo_do rfl rfl rfl rfl (A_ix Und.h Tsz.h rfl rfl) ?_
   refine zy ?_
   refine Wo_allocStore rfl rfl Zr.h Tsz.h rfl (fun _=>rfl) rfl rfl rfl fun h5 hE5 hW5 hg5 hn5=>?_
   have hO5:=(hO3.newCe hw3 hE3.2.1 hE5 hg5 (Nat.le_refl _))
   replace hE3:=hE3.trans hE5
   generalize h3.nx=b9 at *
   clear hrow hn5 hE5 hO3 hw3
   clear h3
   refine zy ?_
   have hxa:(x.a.toNat:Int)=x.a:=Int.toNat_of_nonneg x1
   refine Wc.mono (Q:=fun z m' ds' h'=>z=.exit 2/\ds'=[]/\Ext h2 h'/\∃v',Own h2 h' [ceI b9 [i64 x.a,i64 x.b,str x.text] 75 false,slI h2 v' 75 3 ((R++curT cs x (x.b.toNat+1)).flatMap ttVs) (R++curT cs x (x.b.toNat+1)).length]/\AllK m' [(0,i64 n),(1,.slice ac cs.length cc),(6,v'),(46,.slice (some ⟨bl,ol,oal⟩) l.length cl),(47,i64 l.length),(48,i64 k)])
    (Wc_loop (fun (s:Nat×Value) m ds h'=>ds=[]/\x.a.toNat<=s.1/\s.1<=x.b.toNat+1/\Ext h2 h'/\Own h2 h' [ceI b9 [i64 x.a,i64 x.b,str x.text] 75 false,slI h2 s.2 75 3 ((R++curT cs x s.1).flatMap ttVs) (R++curT cs x s.1).length]/\AllK m [(0,i64 n),(1,.slice ac cs.length cc),(6,s.2),(9,.pointer (some ⟨b9,0,none⟩)),(10,i64 ((cntC cs s.1:Int)-cntC cs x.a.toNat)),(11,i64 s.1),(46,.slice (some ⟨bl,ol,oal⟩) l.length cl),(47,i64 l.length),(48,i64 k)])
     (fun s=>x.b.toNat+1-s.1) (x.a.toNat,v) ?_ ?_) ?_
   ·refine⟨rfl,Nat.le_refl _,by show x.a.toNat<=x.b.toNat+1;omega,hE3,?_,rfl,rfl,rfl,rfl,?_,?_,rfl,rfl,rfl,trivial⟩
    ·rw[curT_0,List.append_nil];exact hO5
    ·rw[Int.sub_self];rfl
    ·rw[hxa];rfl
   rotate_left
   ·rintro _ m' ds' h6 ⟨rfl,rfl,hE6,v',hO6,hall⟩
    show Wc _ _ _ _ _ _ _
    refine Wc.le ?_ (Le.kn hall)
    rw[curT_end rfl,<-hrs] at hO6
    refine zy ?_
    exact⟨(k+1,v'),(by show l.length-(k+1)<l.length-k;omega),rfl,hk',hE6,hO6.tail,rfl,rfl,rfl,rfl,rfl,rfl,trivial⟩
   clear hE3 hO5 hW5 hall hg5
   clear h5
   rintro⟨f,u⟩ m ds h5 ⟨rfl,hf1,hf2,hE5,hO5,hall⟩
   simp only at hf1 hf2 hO5 hall
   refine Wc_wf fun hw5=>?_
   have hg5:h5.get b9=some (.cells [i64 x.a,i64 x.b,str x.text] 75 false):=hO5.p1
   have hcm:=cntC_mono cs hf1
   have hcs1:=cntC_succ cs f
   have hci:=fun {m:Int}=>after_cnt hce (i:=f) (n:=m)
   refine Wc.le ?_ (Le.kn hall)
   refine zy ?_
   refine Wo_dec rfl rfl rfl rfl (A_leq rfl rfl) (fun h6=>?_) (fun h6=>?_)
   rotate_left
   ·have hf3:f=x.b.toNat+1:=by omega
    subst hf3
    refine zy ?_
    exact⟨rfl,rfl,hE5,u,hO5,rfl,rfl,rfl,rfl,rfl,rfl,trivial⟩
   have hfn:(f:Int)<n:=by omega
   have haf:=after_sv hI (show I64 (f:Int) from⟨by omega,by omega⟩) (RowsAt.ext (R:=CutR) (fun x _=>x) hcs (hE.trans hE5)) hcF hcL (cc:=cc)
   rw[hafter hfn] at haf
   cases hA:afterC cs (f:Int) with
   | none =>
    rw[hA] at haf hcs1
    have hcs2:cntC cs (f+1)=cntC cs f:=hcs1
    have hcu:curT cs x (f+1)=curT cs x f:=by unfold curT;rw[hcs2]
    refine zy ?_
    refine Wo_callE rfl rfl rfl rfl rfl Bod.h rfl rfl (by exact haf) fun h7 hE7=>?_
    refine zy ?_
    refine Wo_do rfl rfl rfl rfl (A_tt (by decide) (A_neq rfl rfl)) ?_
    refine zy ?_
    refine⟨(f+1,u),(by show x.b.toNat+1-(f+1)<x.b.toNat+1-f;omega),rfl,by show _<=f+1;omega,by show f+1<=_;omega,hE5.trans hE7,?_,rfl,rfl,rfl,rfl,?_,rfl,rfl,rfl,rfl,trivial⟩
    ·rw[hcu];exact hO5.ext hE7
    ·rw[hcs2];rfl
   | some m =>
    rw[hA] at haf hcs1
    have hcs2:cntC cs (f+1)=cntC cs f+1:=hcs1
    have hm:=hci hA
    have hcle:cntC cs f<=f:=by
     unfold cntC
     have:=List.length_filter_le (fun j:Nat=>(afterC cs (j:Int)).isSome) (List.range f)
     rwa [List.length_range] at this
    refine zy ?_
    refine Wo_callE rfl rfl rfl rfl rfl Bod.h rfl rfl (by exact haf) fun h7 hE7=>?_
    have hO7:=hO5.ext hE7
    have hE57:=hE5.trans hE7
    have g7:=hE7.get hg5
    clear haf
    refine zy ?_
    refine Wo_do rfl rfl rfl rfl (A_ff (by exact fun e=>e rfl) (A_neq rfl rfl)) ?_
    refine zy ?_
    by_cases hz:(cntC cs f:Int)-cntC cs x.a.toNat=0
    ·have hcu:curT cs x f=[]:=by unfold curT;rw[if_neg (by omega)]
     have hcu2:curT cs x (f+1)=[⟨(cntC cs x.a.toNat:Nat),m,x.text⟩]:=by
      unfold curT
      rw[if_pos (by omega),hcs2,hm]
      congr 2
      omega
     have hma:m=(cntC cs x.a.toNat:Nat):=by omega
     rw[hcu,List.append_nil] at hO7
     refine Wo_do rfl rfl rfl rfl (A_tt hz (A_eql rfl rfl)) ?_
     refine zy ?_
     refine Wo_bs rfl rfl Und.h Tsz.h Zr.h rfl rfl rfl rfl rfl fun h8 hE8 hW8 hg8 hn8=>?_
     have hrl:(R++[(⟨m,0,x.text⟩:Ttl)]).length=R.length+1:=by simp
     have hrm:(R++[(⟨m,0,x.text⟩:Ttl)]).flatMap ttVs=R.flatMap ttVs++[i64 m,i64 0,str x.text]:=by rw[List.flatMap_append];rfl
     refine Wo_appendO (k:=1) (l:=[i64 m,i64 0,str x.text]) hw2 (hE57.trans hE8) rfl rfl rfl rfl rfl Und.h inferInstance rfl rfl ((hO7.ext hE8).pick 1 rfl) (asrc_row Und.h (by intro k;simp) (rowAt_cells hg8 rfl)) rfl rfl (by omega) (by omega) fun va ha hWa hOa hEa=>?_
     rw[<-hrl,<-hrm] at hOa
     obtain⟨bu,spu,opu,rfl,gu,-,-⟩:=FreshSl.blk (show FreshSl h2 ha va 75 3 _ _ from hOa.p1) (by rw[hrl];exact Nat.succ_pos _)
     have hset:=ttRows_set R m 0 m x.text
     refine zy ?_
     refine Wo_do rfl rfl rfl rfl (A_indexAddr (k:=R.length) Und.h Tsz.h rfl rfl (by rw[hrl];omega) (by rw[hrl];omega)) ?_
     refine zy ?_
     refine Wo_store rfl Tsz.h rfl rfl gu rfl rfl (by exact lay_one (by rw[ttRows_len,hrl];omega)) fun hb hUb=>?_
     rw[Nat.zero_add,hset] at hUb
     obtain⟨hOb,hEb⟩:=hOa.setSlK hWa hEa hw2 hUb (by rw[ttRows_len,ttRows_len];simp)
     have hOc:=hOb.unpick 1 (Nat.le_of_ble_eq_true rfl)
     refine zy ?_
     refine⟨(f+1,_),(by show x.b.toNat+1-(f+1)<x.b.toNat+1-f;omega),rfl,by show _<=f+1;omega,by show f+1<=_;omega,hEb,?_,rfl,rfl,rfl,rfl,?_,rfl,rfl,rfl,rfl,trivial⟩
     ·rw[hcu2]
      simp only[List.length_append,List.length_singleton] at hOc ⊢
      rw[<-hma]
      exact hOc
     ·rw[hcs2,show ((cntC cs f+1:Nat):Int)-cntC cs x.a.toNat=(cntC cs f:Int)-cntC cs x.a.toNat+1 by omega];rfl
    ·have hcu:curT cs x f=[⟨(cntC cs x.a.toNat:Nat),(cntC cs f:Nat)-1,x.text⟩]:=by unfold curT;rw[if_pos (by omega)]
     have hcu2:curT cs x (f+1)=[⟨(cntC cs x.a.toNat:Nat),m,x.text⟩]:=by
      unfold curT
      rw[if_pos (by omega),hcs2,hm]
      congr 2
      omega
     rw[hcu] at hO7
     have hOa:=hO7.pick 1 rfl
     have hrl:(R++[(⟨(cntC cs x.a.toNat:Nat),(cntC cs f:Nat)-1,x.text⟩:Ttl)]).length=R.length+1:=by simp
     obtain⟨bu,spu,opu,rfl,gu,-,-⟩:=FreshSl.blk (show FreshSl h2 h7 u 75 3 _ _ from hOa.p1) (by rw[hrl];exact Nat.succ_pos _)
     have hset:=ttRows_set R (cntC cs x.a.toNat:Nat) ((cntC cs f:Nat)-1) m x.text
     refine Wo_do rfl rfl rfl rfl (A_ff hz (A_eql rfl rfl)) ?_
     refine Wo_wf fun hw7=>?_
     refine zy ?_
     refine Wo_do rfl rfl rfl rfl (A_indexAddr (k:=R.length) Und.h Tsz.h rfl rfl (by rw[hrl];omega) (by rw[hrl];omega)) ?_
     refine zy ?_
     refine Wo_store rfl Tsz.h rfl rfl gu rfl rfl (by exact lay_one (by rw[ttRows_len,hrl];omega)) fun hb hUb=>?_
     rw[Nat.zero_add,hset] at hUb
     obtain⟨hOb,hEb⟩:=hOa.setSlK hw7 hE57 hw2 hUb (by rw[ttRows_len,ttRows_len];simp)
     have hOc:=hOb.unpick 1 (Nat.le_of_ble_eq_true rfl)
     refine zy ?_
     refine⟨(f+1,_),(by show x.b.toNat+1-(f+1)<x.b.toNat+1-f;omega),rfl,by show _<=f+1;omega,by show f+1<=_;omega,hEb,?_,rfl,rfl,rfl,rfl,?_,rfl,rfl,rfl,rfl,trivial⟩
     ·rw[hcu2]
      simp only[List.length_append,List.length_singleton] at hOc ⊢
      exact hOc
     ·rw[hcs2,show ((cntC cs f+1:Nat):Int)-cntC cs x.a.toNat=(cntC cs f:Int)-cntC cs x.a.toNat+1 by omega];rfl
  ·have hle:l=[]:=List.eq_nil_of_length_eq_zero (by omega)
   subst hle
   have er0:retErr n cs []=0:=er
   refine Wo_do rfl rfl rfl rfl (A_ff (by omega) (A_gtr rfl rfl)) ?_
   refine zy ?_
   refine Wc_loop (fun (_:Unit) m ds h'=>ds=[]/\h2=h'/\AllK m [(6,.slice none 0 0),(47,i64 0),(48,i64 0)]) (fun _=>0) () ⟨rfl,rfl,rfl,rfl,rfl,trivial⟩ ?_
   rintro _ m ds h' ⟨rfl,rfl,hall⟩
   refine Wc.le ?_ (Le.kn hall)
   refine zy ?_
   refine Wo_do rfl rfl rfl rfl (A_ff (by decide) (A_lss rfl rfl)) ?_
   refine zy ?_
   exact Wc_ret (Lv_ret rfl ⟨hE,.inr ⟨er0,.slice none 0 0,rfl,FreshSl.nil _ _ _ _⟩⟩)
end Go.Dw
/- T4: contracts: subtitles as they stand after cuts, package telecineref11; lists compared. -/
namespace Go.Dw
open Go Go.Dx Go.Proofs
set_option maxRecDepth 100000
def rowT (cs:List Cut)(x:Ttl)(f:Nat):List Value:=if cntC cs x.a.toNat<cntC cs f then [i64 (cntC cs x.a.toNat:Nat),i64 ((cntC cs f:Nat)-1),str x.text] else [i64 x.a,i64 x.b,str x.text]
set_option maxHeartbeats 4000000 in
theorem refRetime_sv {n:Int}{cs:List Cut}{l:List Ttl}{ac al:Option Addr}{cc cl:Nat}{h:Heap}(hI:I64 n)(hcs:RowsAt 2 CutR h ac cs)(hcF:∀c∈cs,c.Fit)(hcL:Len cs)(hl:RowsAt 3 TtlR h al l)(hF:∀x∈l,x.Fit)(hL:Len l):Sv Tryz.prog 29 [i64 n,.slice ac cs.length cc,.slice al l.length cl] h (RetP (RetR n cs l h)):=by
 refine Sv_wf fun hw=>?_
 refine Sv_enter Tryz.func29 rfl (by rw[Tryz.ntmps29];rfl) ?_;show Wc Tryz.prog ⟨29,95,none⟩ _ _ _ _ _
 refine zy ?_
 refine Wo_callV rfl rfl rfl rfl rfl Bod.h rfl rfl (after5_sv hI (by decide) hcs hcF hcL) ?_
 by_cases hc0:(cutS n cs).2=0
 rotate_left
 ·have e:retErr n cs l=(cutS n cs).2:=by unfold retErr;rw[if_pos hc0]
  have e4:=cutS_ne4 (n:=n) (cs:=cs)
  rw[after0_bad hc0]
  generalize (cutS n cs).2=q at *
  refine zy ?_
  refine Wo_do rfl rfl rfl rfl (A_ff e4 (A_eql rfl rfl)) ?_
  refine zy ?_
  refine Wo_do rfl rfl rfl rfl (A_ff hc0 (A_eql rfl rfl)) ?_
  refine zy ?_
  refine Wc_loop (fun (_:Unit) m ds h'=>ds=[]/\h=h'/\AllK m [(2,.slice al l.length cl),(9,i64 q),(10,i64 0)]) (fun _=>0) () ⟨rfl,rfl,rfl,rfl,rfl,trivial⟩ ?_
  rintro _ m ds h' ⟨rfl,rfl,hall⟩
  refine Wc.le ?_ (Le.kn hall)
  refine zy ?_
  refine Wo_dec rfl rfl rfl rfl (A_lss rfl rfl) (fun h3=>?_) (fun h3=>?_)
  ·refine zy ?_
   refine Wo_do rfl rfl rfl rfl (A_ff hc0 (A_eql rfl rfl)) ?_
   refine zy ?_
   refine Wo_do rfl rfl rfl rfl (A_tt hc0 (A_neq rfl rfl)) ?_
   refine zy ?_
   exact Wc_ret (Lv_ret rfl ⟨Ext.refl _,.inl ⟨by rw[e];exact hc0,by rw[e];rfl⟩⟩)
  ·refine zy ?_
   refine Wo_do rfl rfl rfl rfl (A_tt hc0 (A_neq rfl rfl)) ?_
   refine zy ?_
   exact Wc_ret (Lv_ret rfl ⟨Ext.refl _,.inl ⟨by rw[e];exact hc0,by rw[e];rfl⟩⟩)
 have hafter:=fun {i:Nat} (h1:(i:Int)<n)=>after_at (i:=(i:Int)) hc0 (by omega) h1
 have h04:=after0_ok hc0
 obtain⟨n1,n2,n3,hok⟩:=cutS_ok hc0
 have hce:=cuts_each hok
 have er:retErr n cs l=if titlesErr l≠0 then titlesErr l else if (l.any fun x=>decide (n<=x.b))=true then 7 else 0:=by unfold retErr;rw[if_neg (fun e=>e hc0)]
 generalize (afterV n cs 0).1=a0 at *
 generalize (afterV n cs 0).2=q at *
 refine zy ?_
 refine Wo_do rfl rfl rfl rfl (A_eql rfl rfl) ?_
 refine zy ?_
 refine Wc.mono (Q:=fun x m' ds' h'=>x=.normal/\ds'=[]/\h=h'/\AllK m' [(0,i64 n),(1,.slice ac cs.length cc),(2,.slice al l.length cl),(9,i64 0)]) ?_ ?_
 ·refine Wc_cond rfl (fun hb=>?_) (fun hb=>?_)
  ·refine zy ?_
   exact⟨rfl,rfl,rfl,rfl,rfl,rfl,rfl,trivial⟩
  ·obtain rfl:q=0:=by
    have:=of_decide_eq_false hb
    omega
   refine zy ?_
   exact⟨rfl,rfl,rfl,rfl,rfl,rfl,rfl,trivial⟩
 rintro _ m' ds' h' ⟨rfl,rfl,rfl,hall⟩
 show Wc _ _ _ _ _ _ _
 refine Wc.le ?_ (Le.kn hall)
 clear hall
 refine zy ?_
 refine Wo_do rfl rfl rfl rfl (A_tt rfl (A_eql rfl rfl)) ?_
 refine zy ?_
 refine Wo_callV rfl rfl rfl rfl rfl Bod.h rfl rfl (refTitles_sv hl hF hL) ?_
 by_cases ht:titlesErr l=0
 rotate_left
 ·rw[if_pos ht] at er
  generalize titlesErr l=q at *
  refine zy ?_
  refine Wc_loop (fun (_:Unit) m ds h'=>ds=[]/\h=h'/\AllK m [(2,.slice al l.length cl),(9,i64 q),(10,i64 0)]) (fun _=>0) () ⟨rfl,rfl,rfl,rfl,rfl,trivial⟩ ?_
  rintro _ m ds h' ⟨rfl,rfl,hall⟩
  refine Wc.le ?_ (Le.kn hall)
  refine zy ?_
  refine Wo_dec rfl rfl rfl rfl (A_lss rfl rfl) (fun h3=>?_) (fun h3=>?_)
  ·refine zy ?_
   refine Wo_do rfl rfl rfl rfl (A_ff ht (A_eql rfl rfl)) ?_
   refine zy ?_
   refine Wo_do rfl rfl rfl rfl (A_tt ht (A_neq rfl rfl)) ?_
   refine zy ?_
   exact Wc_ret (Lv_ret rfl ⟨Ext.refl _,.inl ⟨by rw[er];exact ht,by rw[er];rfl⟩⟩)
  ·refine zy ?_
   refine Wo_do rfl rfl rfl rfl (A_tt ht (A_neq rfl rfl)) ?_
   refine zy ?_
   exact Wc_ret (Lv_ret rfl ⟨Ext.refl _,.inl ⟨by rw[er];exact ht,by rw[er];rfl⟩⟩)
 rw[if_neg (fun e=>e ht)] at er
 obtain⟨hn40,hx,hpw⟩:=titles_each ht
 rw[ht]
 refine zy ?_
 refine Wc.mono (Q:=fun x m' ds' h'=>x=.exit 0/\ds'=[]/\h=h'/\AllK m' [(0,i64 n),(1,.slice ac cs.length cc),(2,.slice al l.length cl),(9,i64 (retErr n cs l))]) (Wc_loop (fun (s:Nat×Int) m ds h'=>ds=[]/\h=h'/\s.1<=l.length/\(s.2=0->∀j (hj:j<l.length),j<s.1->¬n<=l[j].b)/\(s.2≠0->retErr n cs l=s.2)/\AllK m [(0,i64 n),(1,.slice ac cs.length cc),(2,.slice al l.length cl),(9,i64 s.2),(10,i64 s.1)]) (fun s=>l.length-s.1) (0,0) ?_ ?_) ?_
 ·exact⟨rfl,rfl,Nat.zero_le _,(fun _ j _ hj=>absurd hj (Nat.not_lt_zero _)),(fun e=>absurd rfl e),rfl,rfl,rfl,rfl,rfl,trivial⟩
 ·rintro⟨k,e⟩ m ds h' ⟨rfl,rfl,hk,hno,hbad,hall⟩
  simp only at hk hno hbad hall
  refine Wc.le ?_ (Le.kn hall)
  refine zy ?_
  refine Wo_dec rfl rfl rfl rfl (A_lss rfl rfl) (fun h5=>?_) (fun h5=>?_)
  rotate_left
  ·have hk2:k=l.length:=by omega
   subst hk2
   have hfin:retErr n cs l=e:=by
    by_cases e0:e=0
    ·rw[er,if_neg,e0]
     intro q
     obtain⟨x,hx1,hx2⟩:=List.any_eq_true.1 q
     obtain⟨j,hj,rfl⟩:=List.getElem_of_mem hx1
     exact hno e0 j hj hj (of_decide_eq_true hx2)
    ·exact hbad e0
   refine zy ?_
   exact⟨rfl,rfl,rfl,rfl,rfl,rfl,(by rw[hfin];rfl),trivial⟩
  have hk':k<l.length:=by simpa using h5
  refine zy ?_
  by_cases e0:e=0
  rotate_left
  ·refine Wo_do rfl rfl rfl rfl (A_ff e0 (A_eql rfl rfl)) ?_
   refine zy ?_
   exact⟨rfl,rfl,rfl,rfl,rfl,rfl,(by rw[hbad e0];rfl),trivial⟩
  refine Wo_do rfl rfl rfl rfl (A_tt e0 (A_eql rfl rfl)) ?_
  obtain⟨b,o,oa,rfl,row,hrow,hr⟩:=hl k hk'
  have hyes:n<=l[k].b->retErr n cs l=7:=fun q=>by rw[er,if_pos (List.any_eq_true.2 ⟨_,List.getElem_mem hk',decide_eq_true q⟩)]
  have hnx:¬n<=l[k].b->∀j (hj:j<l.length),j<k+1->¬n<=l[j].b:=fun q j hj hlt=>by
   rcases Nat.lt_or_ge j k with g|g
   ·exact hno e0 j hj g
   ·have:j=k:=by omega
    subst this;exact q
  generalize l[k]=x at *
  obtain rfl:=hr
  have z1:cellAt h b (o+k*3+1)=some (i64 x.b):=cell_of_row hrow rfl
  refine zy ?_
  refine Wo_do rfl rfl rfl rfl (A_ix Und.h Tsz.h rfl rfl) ?_
  refine zy ?_
  by_cases hq:n<=x.b
  ·refine Wo_do rfl rfl rfl rfl (A_tt hq (A_geq rfl rfl)) ?_
   refine zy ?_
   exact⟨(k+1,7),(by show l.length-(k+1)<l.length-k;omega),rfl,rfl,hk',(fun q=>absurd (show (7:Int)=0 from q) (by decide)),(fun _=>hyes hq),rfl,rfl,rfl,rfl,rfl,trivial⟩
  ·refine Wo_do rfl rfl rfl rfl (A_ff hq (A_geq rfl rfl)) ?_
   refine zy ?_
   exact⟨(k+1,e),(by show l.length-(k+1)<l.length-k;omega),rfl,rfl,hk',(fun _=>hnx hq),(fun q=>absurd e0 q),rfl,rfl,rfl,rfl,rfl,trivial⟩
 rintro _ m' ds' h' ⟨rfl,rfl,rfl,hall⟩
 show Wc _ _ _ _ _ _ _
 refine Wc.le ?_ (Le.kn hall)
 clear hall
 by_cases er0:retErr n cs l=0
 rotate_left
 ·generalize hq:retErr n cs l=q at *
  refine zy ?_
  refine Wo_do rfl rfl rfl rfl (A_tt er0 (A_neq rfl rfl)) ?_
  refine zy ?_
  exact Wc_ret (Lv_ret rfl ⟨Ext.refl _,.inl ⟨by rw[hq];exact er0,by rw[hq];rfl⟩⟩)
 have hbn:∀x∈l,x.b<n:=(ret_ok er0).2.2
 rw[er0]
 refine zy ?_
 refine Wo_do rfl rfl rfl rfl (A_ff (by decide) (A_neq rfl rfl)) ?_
 refine zy ?_
 refine Wc_loop (fun (s:Nat×Value) m ds h'=>ds=[]/\s.1<=l.length/\Ext h h'/\Own h h' [slI h s.2 75 3 ((retimeS cs (l.take s.1)).flatMap ttVs) (retimeS cs (l.take s.1)).length]/\AllK m [(0,i64 n),(1,.slice ac cs.length cc),(2,.slice al l.length cl),(11,s.2),(12,i64 s.1)]) (fun s=>l.length-s.1) (0,.slice none 0 0) ?_ ?_
 ·exact⟨rfl,Nat.zero_le _,Ext.refl _,(Own.nil h h).nilSl 75 3,rfl,rfl,rfl,rfl,rfl,trivial⟩
 rintro⟨k,v⟩ m ds h3 ⟨rfl,hk,hE3,hO3,hall⟩
 simp only at hk hO3 hall
 refine Wc_wf fun hw3=>?_
 refine Wc.le ?_ (Le.kn hall)
 refine zy ?_
 refine Wo_dec rfl rfl rfl rfl (A_lss rfl rfl) (fun h4=>?_) (fun h4=>?_)
 rotate_left
 ·have hk2:k=l.length:=by omega
  subst hk2
  rw[List.take_length] at hO3
  have q1:=hO3.p1
  refine zy ?_
  exact Wc_ret (Lv_ret rfl ⟨hE3,.inr ⟨er0,v,rfl,q1⟩⟩)
 have hk':k<l.length:=by simpa using h4
 obtain⟨bl,ol,oal,rfl,row,hrow,hr'⟩:=hl k hk'
 obtain⟨x1,x2,x3,-⟩:=hx _ (List.getElem_mem hk')
 have x4:=hbn _ (List.getElem_mem hk')
 have htk:l.take (k+1)=l.take k++[l[k]]:=by rw[List.take_add_one,List.getElem?_eq_getElem hk'];rfl
 have hrs:=retimeS_snoc cs (l.take k) l[k]
 rw[<-htk] at hrs
 have hrl0:=retimeS_len cs (l.take k)
 rw[List.length_take] at hrl0
 generalize l[k]=x at *
 obtain rfl:=hr'
 have z1:cellAt h bl (ol+k*3+1)=some (i64 x.b):=cell_of_row hrow rfl
 have z0:cellAt h bl (ol+k*3+0)=some (i64 x.a):=cell_of_row hrow rfl
 have hrow3:=hE3.row hrow
 generalize retimeS cs (l.take k)=R at *
 refine zy ?_
 refine Wo_do rfl rfl rfl rfl (A_ix Und.h Tsz.h rfl rfl) ?_
 refine zy ?_
 refine Wo_allocStore rfl rfl Zr.h Tsz.h rfl (fun _=>rfl) rfl rfl rfl fun h5 hE5 hW5 hg5 hn5=>?_
 have hO5:=(hO3.newCe hw3 hE3.2.1 hE5 hg5 (Nat.le_refl _))
 replace hE3:=hE3.trans hE5
 have z05:=hE3.cell z0
 generalize h3.nx=b9 at *
 clear hrow3 hn5 hE5 hO3 hw3
 clear h3
 refine zy ?_
 refine Wo_do rfl rfl rfl rfl (A_ix Und.h Tsz.h rfl rfl) ?_
 refine zy ?_
 have hxa:(x.a.toNat:Int)=x.a:=Int.toNat_of_nonneg x1
 refine Wc.mono (Q:=fun z m' ds' h'=>z=.exit 4/\ds'=[]/\Ext h h'/\Own h h' [ceI b9 (rowT cs x (x.b.toNat+1)) 75 false,slI h v 75 3 (R.flatMap ttVs) R.length]/\AllK m' [(0,i64 n),(1,.slice ac cs.length cc),(2,.slice (some ⟨bl,ol,oal⟩) l.length cl),(11,v),(12,i64 k),(13,.pointer (some ⟨b9,0,none⟩)),(14,.bool (decide (cntC cs x.a.toNat<cntC cs (x.b.toNat+1))))])
  (Wc_loop (fun (f:Nat) m ds h'=>ds=[]/\x.a.toNat<=f/\f<=x.b.toNat+1/\Ext h h'/\Own h h' [ceI b9 (rowT cs x f) 75 false,slI h v 75 3 (R.flatMap ttVs) R.length]/\AllK m [(0,i64 n),(1,.slice ac cs.length cc),(2,.slice (some ⟨bl,ol,oal⟩) l.length cl),(11,v),(12,i64 k),(13,.pointer (some ⟨b9,0,none⟩)),(14,.bool (decide (cntC cs x.a.toNat<cntC cs f))),(15,i64 f)])
   (fun f=>x.b.toNat+1-f) x.a.toNat ?_ ?_) ?_
 ·refine⟨rfl,Nat.le_refl _,by omega,hE3,?_,rfl,rfl,rfl,rfl,rfl,rfl,?_,?_,trivial⟩
  ·unfold rowT;rw[if_neg (Nat.lt_irrefl _)];exact hO5
  ·rw[decide_eq_false (Nat.lt_irrefl _)];rfl
  ·rw[hxa];rfl
 rotate_left
 ·rintro _ m' ds' h6 ⟨rfl,rfl,hE6,hO6,hall⟩
  show Wc _ _ _ _ _ _ _
  by_cases hz:cntC cs x.a.toNat<cntC cs (x.b.toNat+1)
  ·rw[decide_eq_true hz] at hall
   unfold rowT at hO6
   rw[if_pos hz] at hO6
   have hre:retime1 cs x=some ⟨(cntC cs x.a.toNat:Nat),(cntC cs (x.b.toNat+1):Nat)-1,x.text⟩:=by unfold retime1;rw[if_pos hz]
   rw[hre] at hrs
   refine Wc.le ?_ (Le.kn hall)
   have g6:h6.get b9=some (.cells [i64 (cntC cs x.a.toNat:Nat),i64 ((cntC cs (x.b.toNat+1):Nat)-1),str x.text] 75 false):=hO6.p1
   generalize hy:(⟨(cntC cs x.a.toNat:Nat),(cntC cs (x.b.toNat+1):Nat)-1,x.text⟩:Ttl)=y at *
   have hyv:ttVs y=[i64 (cntC cs x.a.toNat:Nat),i64 ((cntC cs (x.b.toNat+1):Nat)-1),str x.text]:=by rw[<-hy];rfl
   have hrl:(R++[y]).length=R.length+1:=by simp
   have hrm:(R++[y]).flatMap ttVs=R.flatMap ttVs++[i64 (cntC cs x.a.toNat:Nat),i64 ((cntC cs (x.b.toNat+1):Nat)-1),str x.text]:=by rw[List.flatMap_append,<-hyv];simp
   refine zy ?_
   refine Wo_bs rfl rfl Und.h Tsz.h Zr.h rfl rfl rfl rfl rfl fun h8 hE8 hW8 hg8 hn8=>?_
   refine Wo_appendO (k:=1) (l:=[i64 (cntC cs x.a.toNat:Nat),i64 ((cntC cs (x.b.toNat+1):Nat)-1),str x.text]) hw (hE6.trans hE8) rfl rfl rfl rfl rfl Und.h inferInstance rfl rfl ((hO6.ext hE8).tail) (asrc_row Und.h (by intro k;simp) (rowAt_cells hg8 rfl)) rfl rfl (by omega) (by omega) fun va ha hWa hOa hEa=>?_
   rw[<-hrl,<-hrm] at hOa
   refine zy ?_
   refine⟨(k+1,va),(by show l.length-(k+1)<l.length-k;omega),rfl,hk',hEa,?_,rfl,rfl,rfl,rfl,rfl,trivial⟩
   simp only[hrs];exact hOa
  ·rw[decide_eq_false hz] at hall
   have hre:retime1 cs x=none:=by unfold retime1;rw[if_neg hz]
   rw[hre] at hrs
   refine Wc.le ?_ (Le.kn hall)
   refine zy ?_
   refine⟨(k+1,v),(by show l.length-(k+1)<l.length-k;omega),rfl,hk',hE6,?_,rfl,rfl,rfl,rfl,rfl,trivial⟩
   simp only[hrs,Option.toList_none,List.append_nil];exact hO6.tail
 clear hE3 hO5 hW5 hall hg5 z05
 clear h5
 rintro f m ds h5 ⟨rfl,hf1,hf2,hE5,hO5,hall⟩
 refine Wc_wf fun hw5=>?_
 have hcm:=cntC_mono cs hf1
 have hcs1:=cntC_succ cs f
 have hci:=fun {m:Int}=>after_cnt hce (i:=f) (n:=m)
 have z15:=hE5.cell z1
 by_cases hf3:x.b.toNat+1<=f
 ·have hf4:f=x.b.toNat+1:=by omega
  subst hf4
  refine Wc.le ?_ (Le.kn hall)
  refine zy ?_
  refine Wo_do rfl rfl rfl rfl (A_ix Und.h Tsz.h rfl rfl) ?_
  refine zy ?_
  refine Wo_do rfl rfl rfl rfl (A_ff (by omega) (A_leq rfl rfl)) ?_
  refine zy ?_
  exact⟨rfl,rfl,hE5,hO5,rfl,rfl,rfl,rfl,rfl,rfl,rfl,trivial⟩
 have hfn:(f:Int)<n:=by omega
 have haf:=after5_sv hI (show I64 (f:Int) from⟨by omega,by omega⟩) (RowsAt.ext (R:=CutR) (fun x _=>x) hcs hE5) hcF hcL (cc:=cc)
 rw[hafter hfn] at haf
 have hcle:cntC cs f<=f:=by
  unfold cntC
  have:=List.length_filter_le (fun j:Nat=>(afterC cs (j:Int)).isSome) (List.range f)
  rwa [List.length_range] at this
 cases hA:afterC cs (f:Int) with
 | none =>
  rw[hA] at haf hcs1
  have hcs2:cntC cs (f+1)=cntC cs f:=hcs1
  have hcu:rowT cs x (f+1)=rowT cs x f:=by unfold rowT;rw[hcs2]
  refine Wc.le ?_ (Le.kn hall)
  refine zy ?_
  refine Wo_do rfl rfl rfl rfl (A_ix Und.h Tsz.h rfl rfl) ?_
  refine zy ?_
  refine Wo_do rfl rfl rfl rfl (A_tt (by omega) (A_leq rfl rfl)) ?_
  refine zy ?_
  refine Wo_callV rfl rfl rfl rfl rfl Bod.h rfl rfl haf ?_
  refine zy ?_
  refine Wo_do rfl rfl rfl rfl (A_tt (by decide) (A_neq rfl rfl)) ?_
  refine zy ?_
  refine⟨f+1,(by show x.b.toNat+1-(f+1)<x.b.toNat+1-f;omega),rfl,by omega,by omega,hE5,?_,rfl,rfl,rfl,rfl,rfl,rfl,?_,rfl,trivial⟩
  ·rw[hcu];exact hO5
  ·rw[hcs2];rfl
 | some m =>
  rw[hA] at haf hcs1
  have hcs2:cntC cs (f+1)=cntC cs f+1:=hcs1
  have hm:=hci hA
  have hlt2:cntC cs x.a.toNat<cntC cs (f+1):=by omega
  have hrow2:rowT cs x (f+1)=[i64 (cntC cs x.a.toNat:Nat),i64 m,str x.text]:=by
   unfold rowT
   rw[if_pos hlt2,hcs2,hm]
   congr 3
   omega
  by_cases hz:cntC cs x.a.toNat<cntC cs f
  ·rw[decide_eq_true hz] at hall
   unfold rowT at hO5
   rw[if_pos hz] at hO5
   refine Wc.le ?_ (Le.kn hall)
   have hg5:h5.get b9=_:=hO5.p1
   refine zy ?_
   refine Wo_do rfl rfl rfl rfl (A_ix Und.h Tsz.h rfl rfl) ?_
   refine zy ?_
   refine Wo_do rfl rfl rfl rfl (A_tt (by omega) (A_leq rfl rfl)) ?_
   refine zy ?_
   refine Wo_callV rfl rfl rfl rfl rfl Bod.h rfl rfl haf ?_
   refine zy ?_
   refine Wo_do rfl rfl rfl rfl (A_ff (by exact fun e=>e rfl) (A_neq rfl rfl)) ?_
   refine zy ?_
   refine Wo_storeO hw hE5 rfl Tsz.h rfl rfl hO5 rfl rfl rfl fun h7 hW7 hO7 hE7=>?_
   refine zy ?_
   refine⟨f+1,(by show x.b.toNat+1-(f+1)<x.b.toNat+1-f;omega),rfl,by omega,by omega,hE7,?_,rfl,rfl,rfl,rfl,rfl,rfl,?_,rfl,trivial⟩
   ·rw[hrow2];exact hO7
   ·rw[decide_eq_true hlt2];rfl
  ·rw[decide_eq_false hz] at hall
   unfold rowT at hO5
   rw[if_neg hz] at hO5
   have hma:m=(cntC cs x.a.toNat:Nat):=by omega
   refine Wc.le ?_ (Le.kn hall)
   have hg5:h5.get b9=_:=hO5.p1
   refine zy ?_
   refine Wo_do rfl rfl rfl rfl (A_ix Und.h Tsz.h rfl rfl) ?_
   refine zy ?_
   refine Wo_do rfl rfl rfl rfl (A_tt (by omega) (A_leq rfl rfl)) ?_
   refine zy ?_
   refine Wo_callV rfl rfl rfl rfl rfl Bod.h rfl rfl haf ?_
   refine zy ?_
   refine Wo_do rfl rfl rfl rfl (A_ff (by exact fun e=>e rfl) (A_neq rfl rfl)) ?_
   refine zy ?_
   refine Wo_storeO hw hE5 rfl Tsz.h rfl rfl hO5 rfl rfl rfl fun h7 hW7 hO7 hE7=>?_
   have hg7:h7.get b9=_:=hO7.p1
   refine zy ?_
   refine Wo_storeO hw hE7 rfl Tsz.h rfl rfl hO7 rfl rfl rfl fun h8 hW8 hO8 hE8=>?_
   refine zy ?_
   refine⟨f+1,(by show x.b.toNat+1-(f+1)<x.b.toNat+1-f;omega),rfl,by omega,by omega,hE8,?_,rfl,rfl,rfl,rfl,rfl,rfl,?_,rfl,trivial⟩
   ·rw[hrow2,<-hma];exact hO8
   ·rw[decide_eq_true hlt2];rfl
theorem part_str {cs:Array Value}{o:Nat}{v:Value}{W:World}(h:cs[o]?=some v):(part 9 cs o).run Tryz.prog W=.ok v W:=by
 unfold part
 simp only[Sem.run_bind,Tryz.isAgg9,Result.andThen_ok,Bool.false_eq_true,if_false,h,Sem.run_pure]
theorem eqf_str {d : Nat} {xs ys : Array Value} {f : Field} {fs : List Field} {a b : List UInt8} {W : World} (hn : f.name ≠ "_") (ht : f.type = 9) (ha : xs[f.offset]? = some (str a)) (hb : ys[f.offset]? = some (str b)) :
  (Op.eqFields (d+1) xs ys (f::fs)).run Tryz.prog W=if a=b then (Op.eqFields (d+1) xs ys fs).run Tryz.prog W else .ok false W:=by
 rw[Op.eqFields,if_pos hn,ht]
 simp only[Sem.run_bind,part_str ha,part_str hb,Result.andThen_ok,run_equalIn_string W d 9 ⟨⟨a⟩⟩ ⟨⟨b⟩⟩ Tryz.underlying9]
 rw[<-beq_toListBytes,ba_beq]
 by_cases h:a=b
 ·subst h
  simp
 ·simp[h]
theorem Ttl.ext' {a b:Ttl}(h1:a.a=b.a)(h2:a.b=b.b)(h3:a.text=b.text):a=b:=by cases a;cases b;simp_all
instance:DecidableEq Ttl:=fun a b=>decidable_of_iff (a.a=b.a/\a.b=b.b/\a.text=b.text) ⟨fun ⟨h1,h2,h3⟩=>Ttl.ext' h1 h2 h3,fun h=>by subst h;simp⟩
theorem run_neqTt {x y:Operand}(a b:Ttl)(W:World):(do eqGuard .neq 75 x y (.agg ⟨ttVs a⟩) (.agg ⟨ttVs b⟩);binOp .neq 75 (.agg ⟨ttVs a⟩) (.agg ⟨ttVs b⟩):Sem Value).run Tryz.prog W=.ok (.bool (decide (¬a=b))) W:=by
 simp only[Sem.run_bind]
 rw[run_eqGuard_agg W _ _ _ _ _ _ (by kernel_rfl)]
 simp only[Result.andThen_ok]
 rw[run_neq_struct,run_equalIn_agg W _ _ _ _ (by unfold Program.fieldsOf;rw[Tryz.underlying75]) (by kernel_rfl)]
 rw[show (Tryz.prog.fieldsOf 75)=_ by unfold Program.fieldsOf;rw[Tryz.underlying75]]
 simp only
 rw[eqf_int (a:=a.a) (b:=b.a) (by decide) rfl rfl rfl,eqf_int (a:=a.b) (b:=b.b) (by decide) rfl rfl rfl,eqf_str (a:=a.text) (b:=b.text) (by decide) rfl rfl rfl]
 have hnil:(Op.eqFields 9999 (⟨ttVs a⟩:Array Value) ⟨ttVs b⟩ []).run Tryz.prog W=.ok true W:=rfl
 rw[hnil]
 by_cases e1:a.a=b.a
 ·by_cases e2:a.b=b.b
  ·by_cases e3:a.text=b.text
   ·rw[if_pos e1,if_pos e2,if_pos e3]
    obtain rfl:=Ttl.ext' e1 e2 e3
    simp
   ·rw[if_pos e1,if_pos e2,if_neg e3,decide_eq_true (show ¬a=b from fun e=>e3 (by rw[e]))];rfl
  ·rw[if_pos e1,if_neg e2,decide_eq_true (show ¬a=b from fun e=>e2 (by rw[e]))];rfl
 ·rw[if_neg e1,decide_eq_true (show ¬a=b from fun e=>e1 (by rw[e]))];rfl
theorem A_neqTt {m:Mem}{h:Heap}{d:Option Tmp}{ty:TypeId}{pos:String}{af:Array Edge}{gu:Option (Nat×Bool)}{tz:TypeId}{x y:Operand}{a b:Ttl}(hx:opk h m x=some (.agg ⟨ttVs a⟩))(hy:opk h m y=some (.agg ⟨ttVs b⟩)):Aop Tryz.prog ⟨d,.binOp .neq 75 x y tz,ty,pos,af,gu⟩ m h (.bool (decide (¬a=b))) h :=
 A_bin hx hy rfl rfl rfl (run_neqTt a b)
theorem refTitlesEq_sv {a b:Option Addr}{ca cb:Nat}{l l':List Ttl}{h:Heap}(hl:RowsAt 3 TtlR h a l)(hl':RowsAt 3 TtlR h b l')(hn:Len l)(hn':Len l'):Sv Tryz.prog 30 [.slice a l.length ca,.slice b l'.length cb] h (RetP fun v h'=>v=.bool (decide (l=l'))/\h'=h):=by
 refine Sv_enter Tryz.func30 rfl (by rw[Tryz.ntmps30];rfl) ?_;show Wc Tryz.prog ⟨30,26,none⟩ _ _ _ _ _
 refine zy ?_
 refine Wo_dec rfl rfl rfl rfl (A_neq rfl rfl) (fun h1=>?_) (fun h1=>?_)
 ·refine zy ?_
  exact Wc_ret (Lv_ret rfl ⟨by rw[decide_eq_false (fun e=>h1 (by rw[e]))];rfl,rfl⟩)
 have hll:l.length=l'.length:=by have:=Decidable.not_not.1 h1;omega
 refine zy ?_
 refine Wc_loop (fun (k:Nat) m ds h'=>ds=[]/\h=h'/\k<=l.length/\(∀j (hj:j<l.length),j<k->l[j]=l'[j]'(by omega))/\AllK m [(0,.slice a l.length ca),(1,.slice b l'.length cb),(5,i64 k)]) (fun k=>l.length-k) 0 ?_ ?_
 ·exact⟨rfl,rfl,Nat.zero_le _,(fun _ _ hj=>by omega),rfl,rfl,rfl,trivial⟩
 rintro k m ds h' ⟨rfl,rfl,hk,hno,hall⟩
 refine Wc.le ?_ (Le.kn hall)
 refine zy ?_
 refine Wo_dec rfl rfl rfl rfl (A_lss rfl rfl) (fun h3=>?_) (fun h3=>?_)
 ·have hk':k<l.length:=by simpa using h3
  have hne:∀(q:k<l'.length),¬l[k]=l'[k]->¬l=l':=fun q e e2=>e (by subst e2;rfl)
  have hnx:∀(q:k<l'.length),l[k]=l'[k]->∀j (hj:j<l.length),j<k+1->l[j]=l'[j]'(by omega):=fun q e j hj hlt=>by
   rcases Nat.lt_or_ge j k with g|g
   ·exact hno j hj g
   ·have:j=k:=by omega
    subst this;exact e
  obtain⟨b1,o1,oa1,rfl,r1,hc1,hr1⟩:=hl k hk'
  obtain⟨b2,o2,oa2,rfl,r2,hc2,hr2⟩:=hl' k (by omega)
  replace hne:=hne (by omega)
  replace hnx:=hnx (by omega)
  generalize l[k]=x at *
  generalize l'[k]'(by omega)=y at *
  obtain rfl:=hr1
  obtain rfl:=hr2
  refine zy ?_
  by_cases h4:x=y
  ·refine Wc_draw hmix [0,0,3,7,0,0,48,112,255] [0,1,2,3,4,5,6,7,8] none [] (by kernel_rfl) (by kernel_rfl) ?_
   refine z_m ?_;refine z_m ?_;refine z_i ?_;refine z_r ?_;refine z_m ?_;refine z_m ?_;refine z_i ?_;refine z_r ?_;refine Wp_pure rfl rfl rfl rfl rfl (fun _=>A_ff (fun e=>e h4) (A_neqTt (a:=x) (b:=y) rfl rfl)) ?_
   refine Wp_end (Stl_nil rfl) nb' ?_
   refine zy ?_
   exact⟨k+1,(by show l.length-(k+1)<l.length-k;omega),rfl,rfl,hk',hnx h4,rfl,rfl,rfl,trivial⟩
  ·refine Wc_draw hmix [0,0,3,7,0,0,48,112,255] [0,1,2,3,4,5,6,7,8] none [] (by kernel_rfl) (by kernel_rfl) ?_
   refine z_m ?_;refine z_m ?_;refine z_i ?_;refine z_r ?_;refine z_m ?_;refine z_m ?_;refine z_i ?_;refine z_r ?_;refine Wp_pure rfl rfl rfl rfl rfl (fun _=>A_tt h4 (A_neqTt (a:=x) (b:=y) rfl rfl)) ?_
   refine Wp_end (Stl_nil rfl) nb' ?_
   refine zy ?_
   exact Wc_ret (Lv_ret rfl ⟨by rw[decide_eq_false (hne h4)];rfl,rfl⟩)
 have he:l=l':=List.ext_getElem hll fun i h1 h2=>hno i h1 (by omega)
 refine zy ?_
 exact Wc_ret (Lv_ret rfl ⟨by rw[decide_eq_true he];rfl,rfl⟩)
theorem refInts_sv {a b:Option Addr}{ca cb:Nat}{l l':List Int}{h:Heap}(hl:IntsAt h a l)(hl':IntsAt h b l')(hn:Len l)(hn':Len l'):Sv Tryz.prog 33 [.slice a l.length ca,.slice b l'.length cb] h (RetP fun v h'=>v=.bool (decide (l=l'))/\h'=h):=by
 refine Sv_enter Tryz.func33 rfl (by rw[Tryz.ntmps33];rfl) ?_;show Wc Tryz.prog ⟨33,26,none⟩ _ _ _ _ _
 refine zy ?_
 refine Wo_dec rfl rfl rfl rfl (A_neq rfl rfl) (fun h1=>?_) (fun h1=>?_)
 ·refine zy ?_
  exact Wc_ret (Lv_ret rfl ⟨by rw[decide_eq_false (fun e=>h1 (by rw[e]))];rfl,rfl⟩)
 have hll:l.length=l'.length:=by have:=Decidable.not_not.1 h1;omega
 refine zy ?_
 refine Wc_loop (fun (k:Nat) m ds h'=>ds=[]/\h=h'/\k<=l.length/\(∀j (hj:j<l.length),j<k->l[j]=l'[j]'(by omega))/\AllK m [(0,.slice a l.length ca),(1,.slice b l'.length cb),(5,i64 k)]) (fun k=>l.length-k) 0 ?_ ?_
 ·exact⟨rfl,rfl,Nat.zero_le _,(fun _ _ hj=>by omega),rfl,rfl,rfl,trivial⟩
 rintro k m ds h' ⟨rfl,rfl,hk,hno,hall⟩
 refine Wc.le ?_ (Le.kn hall)
 refine zy ?_
 refine Wo_dec rfl rfl rfl rfl (A_lss rfl rfl) (fun h3=>?_) (fun h3=>?_)
 ·have hk':k<l.length:=by simpa using h3
  have hne:∀(q:k<l'.length),¬l[k]=l'[k]->¬l=l':=fun q e e2=>e (by subst e2;rfl)
  have hnx:∀(q:k<l'.length),l[k]=l'[k]->∀j (hj:j<l.length),j<k+1->l[j]=l'[j]'(by omega):=fun q e j hj hlt=>by
   rcases Nat.lt_or_ge j k with g|g
   ·exact hno j hj g
   ·have:j=k:=by omega
    subst this;exact e
  obtain⟨b1,o1,oa1,rfl,hc1⟩:=hl k hk'
  obtain⟨b2,o2,oa2,rfl,hc2⟩:=hl' k (by omega)
  replace hne:=hne (by omega)
  replace hnx:=hnx (by omega)
  generalize l[k]=x at *
  generalize l'[k]'(by omega)=y at *
  refine zy ?_
  by_cases h4:x=y
  ·refine Wc_draw hmix [0,0,3,7,0,0,48,112,255] [0,1,2,3,4,5,6,7,8] none [] (by kernel_rfl) (by kernel_rfl) ?_
   refine z_m ?_;refine z_m ?_;refine z_i ?_;refine z_l ?_;refine z_m ?_;refine z_m ?_;refine z_i ?_;refine z_l ?_;refine Wp_pure rfl rfl rfl rfl rfl (fun _=>A_ff (fun e=>e h4) (A_neq rfl rfl)) ?_
   refine Wp_end (Stl_nil rfl) nb' ?_
   refine zy ?_
   exact⟨k+1,(by show l.length-(k+1)<l.length-k;omega),rfl,rfl,hk',hnx h4,rfl,rfl,rfl,trivial⟩
  ·refine Wc_draw hmix [0,0,3,7,0,0,48,112,255] [0,1,2,3,4,5,6,7,8] none [] (by kernel_rfl) (by kernel_rfl) ?_
   refine z_m ?_;refine z_m ?_;refine z_i ?_;refine z_l ?_;refine z_m ?_;refine z_m ?_;refine z_i ?_;refine z_l ?_;refine Wp_pure rfl rfl rfl rfl rfl (fun _=>A_tt h4 (A_neq rfl rfl)) ?_
   refine Wp_end (Stl_nil rfl) nb' ?_
   refine zy ?_
   exact Wc_ret (Lv_ret rfl ⟨by rw[decide_eq_false (hne h4)];rfl,rfl⟩)
 have he:l=l':=List.ext_getElem hll fun i h1 h2=>hno i h1 (by omega)
 refine zy ?_
 exact Wc_ret (Lv_ret rfl ⟨by rw[decide_eq_true he];rfl,rfl⟩)
end Go.Dw
