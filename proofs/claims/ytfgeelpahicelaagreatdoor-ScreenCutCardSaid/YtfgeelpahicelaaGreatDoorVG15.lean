/- T2: contracts: subtitles: what is wrong, what cannot be read. -/
import Derived.Test.YtfgeelpahicelaaGreatDoorVG2
import Derived.Test.YtfgeelpahicelaaGreatDoorVG8
import Derived.Test.YtfgeelpahicelaaGreatDoorVG5
import Derived.Test.YtfgeelpahicelaaGreatDoorVG14
import Derived.Test.YtfgeelpahicelaaGreatDoorVG13
set_option linter.unusedVariables false
set_option linter.unusedSimpArgs false
namespace Go.Dw
open Go Go.Dx Go.Proofs
set_option maxRecDepth 100000
theorem titlesGo_rng {bef:Int}{x:Ttl}{xs:List Ttl}(h:(x.a<0\/199999<x.a)\/(x.b<0\/199999<x.b)):titlesGo bef (x::xs)=7:=by
 show (if _ then _ else _)=_
 rw[if_pos h]
theorem titlesGo_arg {bef:Int}{x:Ttl}{xs:List Ttl}(h:¬((x.a<0\/199999<x.a)\/(x.b<0\/199999<x.b)))(h2:x.b<x.a\/x.a<=bef):titlesGo bef (x::xs)=2:=by
 show (if _ then _ else _)=_
 rw[if_neg h,if_pos h2]
theorem titlesGo_form {bef:Int}{x:Ttl}{xs:List Ttl}(h:¬((x.a<0\/199999<x.a)\/(x.b<0\/199999<x.b)))(h2:¬(x.b<x.a\/x.a<=bef))(h3:textB x.text=false):titlesGo bef (x::xs)=6:=by
 show (if _ then _ else _)=_
 rw[if_neg h,if_neg h2,if_pos h3]
theorem titlesGo_on {bef:Int}{x:Ttl}{xs:List Ttl}(h:¬((x.a<0\/199999<x.a)\/(x.b<0\/199999<x.b)))(h2:¬(x.b<x.a\/x.a<=bef))(h3:textB x.text=true):titlesGo bef (x::xs)=titlesGo x.b xs:=by
 show (if _ then _ else _)=_
 rw[if_neg h,if_neg h2,if_neg (by rw[h3];simp)]
theorem titlesErr_long {l:List Ttl}(h:40<l.length):titlesErr l=3:=by unfold titlesErr;rw[if_pos h]
theorem titlesErr_go {l:List Ttl}(h:¬40<l.length):titlesErr l=titlesGo (-1) l:=by unfold titlesErr;rw[if_neg h]
theorem strange_sv {l:List Ttl}{al:Option Addr}{cl:Nat}{h:Heap}(hl:RowsAt 3 TtlR h al l)(hF:∀x∈l,x.Fit)(hL:Len l)(hLib:LibAt h):Sv Tryz.prog 91 [.slice al l.length cl] h (RetP fun v h'=>v=i64 (titlesErr l)/\Ext h h'):=by
 refine Sv_enter Tryz.func91 rfl (by rw[Tryz.ntmps91];rfl) ?_;show Wc Tryz.prog ⟨91,44,none⟩ _ _ _ _ _
 refine zy ?_
 refine Wo_dec rfl rfl rfl rfl (A_gtr rfl rfl) (fun h1=>?_) (fun h1=>?_)
 ·refine zy ?_
  exact Wc_ret (Lv_ret rfl ⟨by rw[titlesErr_long (by omega)];rfl,Ext.refl _⟩)
 rw[titlesErr_go (by omega)]
 refine zy ?_
 refine Wc_loop (fun (s:Nat×Int) m ds h'=>ds=[]/\Ext h h'/\s.1<=l.length/\titlesGo (-1) l=titlesGo s.2 (l.drop s.1)/\AllK m [(3,i64 s.2),(9,.slice al l.length cl),(10,i64 l.length),(11,i64 s.1)]) (fun s=>l.length-s.1) (0,-1) ?_ ?_
 ·exact⟨rfl,Ext.refl _,Nat.zero_le _,by rw[List.drop_zero],rfl,rfl,rfl,rfl,trivial⟩
 rintro⟨k,bef⟩ m ds h2 ⟨rfl,hE2,hk,hgo,hall⟩
 simp only at hk hgo hall
 refine Wc.le ?_ (Le.kn hall)
 refine zy ?_
 refine Wo_dec rfl rfl rfl rfl (A_lss rfl rfl) (fun h3=>?_) (fun h3=>?_)
 rotate_left
 ·have hk2:k=l.length:=by omega
  subst hk2
  rw[hgo,List.drop_length]
  refine zy ?_
  exact Wc_ret (Lv_ret rfl ⟨rfl,hE2⟩)
 have hk':k<l.length:=by simpa using h3
 obtain⟨b,o,oa,rfl,row,hrow,hr⟩:=hl k hk'
 have hFx:=hF _ (List.getElem_mem hk')
 rw[List.drop_eq_getElem_cons hk'] at hgo
 rw[hgo]
 generalize l[k]=x at *
 obtain rfl:=hr
 replace hrow:=hE2.row hrow
 refine zy ?_
 refine Wo_do rfl rfl rfl rfl (A_ix Und.h Tsz.h rfl rfl) ?_
 refine zy ?_
 refine Wo_allocStore rfl rfl Zr.h Tsz.h rfl (fun _=>rfl) rfl rfl rfl fun h4 hE4 hW4 hg4 hn4=>?_
 have hE:=hE2.trans hE4
 generalize h2.nx=b2 at *
 clear hrow hE2 hE4 hn4
 clear h2
 refine zy ?_
 refine Wo_callP rfl rfl rfl rfl rfl Bod.h rfl rfl (out_sv _ _ _ _) (fun h5=>?_) (fun h5=>?_)
 ·replace h5:=of_decide_eq_true h5
  refine zy ?_
  exact Wc_ret (Lv_ret rfl ⟨by rw[titlesGo_rng (.inl h5)];rfl,hE⟩)
 replace h5:=of_decide_eq_false h5
 refine zy ?_
 refine Wo_callP rfl rfl rfl rfl rfl Bod.h rfl rfl (out_sv _ _ _ _) (fun h6=>?_) (fun h6=>?_)
 ·replace h6:=of_decide_eq_true h6
  refine zy ?_
  exact Wc_ret (Lv_ret rfl ⟨by rw[titlesGo_rng (.inr h6)];rfl,hE⟩)
 replace h6:=of_decide_eq_false h6
 have h56:¬((x.a<0\/199999<x.a)\/(x.b<0\/199999<x.b)):=fun e=>e.elim h5 h6
 refine zy ?_
 refine Wo_dec rfl rfl rfl rfl (A_gtr rfl rfl) (fun h7=>?_) (fun h7=>?_)
 ·refine zy ?_
  exact Wc_ret (Lv_ret rfl ⟨by rw[titlesGo_arg h56 (.inl h7)];rfl,hE⟩)
 refine zy ?_
 refine Wo_dec rfl rfl rfl rfl (A_leq rfl rfl) (fun h8=>?_) (fun h8=>?_)
 ·refine zy ?_
  exact Wc_ret (Lv_ret rfl ⟨by rw[titlesGo_arg h56 (.inr h8)];rfl,hE⟩)
 have h78:¬(x.b<x.a\/x.a<=bef):=fun e=>e.elim h7 h8
 refine zy ?_
 refine Wo_callB rfl rfl rfl rfl rfl Bod.h rfl rfl (printed_sv hFx.3 (hLib.ext hE)) (fun h9 h10 hE10=>?_) (fun h9 h10 hE10=>?_)
 ·rw[titlesGo_on h56 h78 h9]
  replace hg4:=hE10.get hg4
  refine zy ?_
  exact⟨(k+1,x.b),(by show l.length-(k+1)<l.length-k;omega),rfl,hE.trans hE10,hk',rfl,rfl,rfl,rfl,rfl,trivial⟩
 ·refine zy ?_
  exact Wc_ret (Lv_ret rfl ⟨by rw[titlesGo_form h56 h78 h9];rfl,hE.trans hE10⟩)
def befT (l:List Ttl):Nat->Int
 | 0=>-1
 | k+1=>match l[k]? with|some x=>x.b|none=>-1
theorem titles_each {l:List Ttl}(h:titlesErr l=0):l.length<=40/\(∀x∈l,0<=x.a/\x.a<=x.b/\x.b<=199999/\textB x.text=true)/\l.Pairwise fun x y=>x.b<y.a:=by
 unfold titlesErr at h
 split at h
 ·cases h
 obtain⟨h1,h2⟩:=titlesGo_ok h
 exact⟨by omega,fun x hx=>(h1 x hx).2,h2⟩
theorem text_len {s:List UInt8}(h:textB s=true):1<=s.length/\s.length<=80:=by
 rw[textB_eq] at h
 simp only[Bool.and_eq_true,decide_eq_true_eq] at h
 exact h.1.1
def unreadK (l:List Ttl)(speed rate:Int)(k:Nat):List Nat:=(List.range k).filter fun i=>match l[i]? with|some x=>unreadB speed rate x|none=>false
theorem unreadK_all (l:List Ttl)(speed rate:Int):unreadK l speed rate l.length=unreadS l speed rate:=rfl
theorem unreadK_succ {l:List Ttl}{speed rate:Int}{k:Nat}(hk:k<l.length):unreadK l speed rate (k+1)=if unreadB speed rate l[k]=true then unreadK l speed rate k++[k] else unreadK l speed rate k:=by
 unfold unreadK
 rw[List.range_succ,List.filter_append]
 simp only[List.filter_cons,List.filter_nil,List.getElem?_eq_getElem hk]
 split <;> simp
theorem unreadK_len {l:List Ttl}{speed rate:Int}{k:Nat}:(unreadK l speed rate k).length<=k:=by
 unfold unreadK
 have:=List.length_filter_le (fun i=>match l[i]? with|some x=>unreadB speed rate x|none=>false) (List.range k)
 rwa [List.length_range] at this
abbrev natV (n:Nat):Value:=i64 (n:Int)
def unErr (l:List Ttl)(speed rate:Int):Int:=if titlesErr l≠0 then titlesErr l else if (speed<1\/60<speed)\/(rate<1\/60<rate) then 7 else 0
def UnR (l:List Ttl)(speed rate:Int)(h:Heap)(v:Value)(h':Heap):Prop:=Ext h h'/\((¬unErr l speed rate=0/\v=.tuple ⟨[.slice none 0 0,i64 (unErr l speed rate)]⟩)\/(unErr l speed rate=0/\∃va,v=.tuple ⟨[va,i64 0]⟩/\FreshSl h h' va 3 1 ((unreadS l speed rate).map natV) (unreadS l speed rate).length))
theorem mul_rng {a b A B:Int}(h1:0<=a)(h2:a<=A)(h3:0<=b)(h4:b<=B):0<=a*b/\a*b<=A*B :=
 ⟨Int.mul_nonneg h1 h3,Int.mul_le_mul h2 h4 h3 (by omega)⟩
set_option maxHeartbeats 1000000 in
theorem scUnread_sv {l:List Ttl}{al:Option Addr}{cl:Nat}{speed rate:Int}{h:Heap}(hl:RowsAt 3 TtlR h al l)(hF:∀x∈l,x.Fit)(hL:Len l)(hs:I64 speed)(hr:I64 rate)(hLib:LibAt h):Sv Tryz.prog 31 [.slice al l.length cl,i64 speed,i64 rate] h (RetP (UnR l speed rate h)):=by
 refine Sv_wf fun hw=>?_
 refine Sv_enter Tryz.func31 rfl (by rw[Tryz.ntmps31];rfl) ?_;show Wc Tryz.prog ⟨31,50,none⟩ _ _ _ _ _
 refine zy ?_
 refine Wo_callE rfl rfl rfl rfl rfl Bod.h rfl rfl (strange_sv hl hF hL hLib) fun h1 hE1=>?_
 by_cases he:titlesErr l=0
 rotate_left
 ·have e:unErr l speed rate=titlesErr l:=by unfold unErr;rw[if_pos he]
  generalize titlesErr l=n at *
  refine zy ?_
  refine Wo_do rfl rfl rfl rfl (A_tt he (A_neq rfl rfl)) ?_
  refine zy ?_
  exact Wc_ret (Lv_ret rfl ⟨hE1,.inl ⟨by rw[e];exact he,by rw[e];rfl⟩⟩)
 have eU:unErr l speed rate=if (speed<1\/60<speed)\/(rate<1\/60<rate) then 7 else 0:=by unfold unErr;rw[if_neg (fun e=>e he)]
 obtain⟨hn,hx,-⟩:=titles_each he
 rw[he]
 refine zy ?_
 refine Wo_do rfl rfl rfl rfl (A_ff (by decide) (A_neq rfl rfl)) ?_
 refine zy ?_
 refine Wo_callP rfl rfl rfl rfl rfl Bod.h rfl rfl (out_sv _ _ _ _) (fun h2=>?_) (fun h2=>?_)
 ·rw[if_pos (.inl (of_decide_eq_true h2))] at eU
  refine zy ?_
  exact Wc_ret (Lv_ret rfl ⟨hE1,.inl ⟨by rw[eU];decide,by rw[eU];rfl⟩⟩)
 replace h2:=of_decide_eq_false h2
 refine zy ?_
 refine Wo_callP rfl rfl rfl rfl rfl Bod.h rfl rfl (out_sv _ _ _ _) (fun h3=>?_) (fun h3=>?_)
 ·rw[if_pos (.inr (of_decide_eq_true h3))] at eU
  refine zy ?_
  exact Wc_ret (Lv_ret rfl ⟨hE1,.inl ⟨by rw[eU];decide,by rw[eU];rfl⟩⟩)
 replace h3:=of_decide_eq_false h3
 rw[if_neg (fun e=>e.elim h2 h3)] at eU
 refine Wo_wf fun hw1=>?_
 refine zy ?_
 refine Wc_loop (fun (s:Nat×Value) m ds h'=>ds=[]/\s.1<=l.length/\Ext h1 h'/\Own h1 h' [slI h1 s.2 3 1 ((unreadK l speed rate s.1).map natV) (unreadK l speed rate s.1).length]/\AllK m [(1,i64 speed),(2,i64 rate),(6,s.2),(23,.slice al l.length cl),(24,i64 l.length),(25,i64 s.1)]) (fun s=>l.length-s.1) (0,.slice none 0 0) ?_ ?_
 ·exact⟨rfl,Nat.zero_le _,Ext.refl _,(Own.nil h1 h1).nilSl 3 1,rfl,rfl,rfl,rfl,rfl,rfl,trivial⟩
 rintro⟨k,v⟩ m ds h4 ⟨rfl,hk,hE4,hO4,hall⟩
 simp only at hk hO4 hall
 refine Wc_wf fun hw4=>?_
 refine Wc.le ?_ (Le.kn hall)
 refine zy ?_
 refine Wo_dec rfl rfl rfl rfl (A_lss rfl rfl) (fun h5=>?_) (fun h5=>?_)
 rotate_left
 ·have hk2:k=l.length:=by omega
  subst hk2
  rw[unreadK_all] at hO4
  have q1:=hO4.p1
  have hb1:=hE1.2.1
  refine zy ?_
  exact Wc_ret (Lv_ret rfl ⟨hE1.trans hE4,.inr ⟨eU,v,rfl,FreshSl.base q1 hb1⟩⟩)
 have hk':k<l.length:=by simpa using h5
 obtain⟨b,o,oa,rfl,row,hrow,hr'⟩:=hl k hk'
 obtain⟨x1,x2,x3,x4⟩:=hx _ (List.getElem_mem hk')
 have hsu:=unreadK_succ (speed:=speed) (rate:=rate) hk'
 have hln:=unreadK_len (l:=l) (speed:=speed) (rate:=rate) (k:=k)
 have x5:=text_len x4
 generalize l[k]=x at *
 obtain rfl:=hr'
 replace hrow:=(hE1.trans hE4).row hrow
 unfold unreadB at hsu
 have hm1:=mul_rng (a:=(x.text.length:Int)) (b:=speed) (A:=80) (B:=60) (by omega) (by omega) (by omega) (by omega)
 have hm2:=mul_rng (a:=rate) (b:=x.b-x.a+1) (A:=60) (B:=200000) (by omega) (by omega) (by omega) (by omega)
 generalize hM1:(x.text.length:Int)*speed=M1 at *
 generalize hM2:rate*(x.b-x.a+1)=M2 at *
 refine zy ?_
 refine Wo_do rfl rfl rfl rfl (A_ix Und.h Tsz.h rfl rfl) ?_
 refine zy ?_
 refine Wo_alloc rfl rfl Zr.h fun h6 hE6 hW6 hg6 hn6=>?_
 have hb4:=hE4.2.1
 refine zy ?_
 refine Wo_store rfl Tsz.h rfl rfl hg6 rfl rfl rfl fun h7 hU7=>?_
 have hE7:=hU7.ext hE6 hw4 (Nat.le_refl _)
 have hg7:=hU7.at'
 have hO7:=hO4.ext hE7
 have hE47:=hE4.trans hE7
 generalize h4.nx=b4 at *
 clear hg6 hU7 hE6 hW6 hn6 hrow
 clear h6
 refine zy ?_
 refine Wo_do rfl rfl rfl rfl (A_mulV rfl rfl hM1 (by omega) (by omega)) ?_
 refine zy ?_
 refine Wo_do rfl rfl rfl rfl (A_mulV rfl rfl hM2 (by omega) (by omega)) ?_
 refine zy ?_
 by_cases h8:M2<M1
 ·rw[if_pos (decide_eq_true h8)] at hsu
  generalize unreadK l speed rate k=U at *
  have hul:(U++[k]).length=U.length+1:=by simp
  have hum:(U++[k]).map natV=U.map natV++[i64 (k:Int)]:=by rw[List.map_append];rfl
  refine Wo_do rfl rfl rfl rfl (A_tt h8 (A_gtr rfl rfl)) ?_
  refine zy ?_
  refine Wo_bs rfl rfl Und.h Tsz.h Zr.h rfl rfl rfl rfl rfl fun h9 hE9 hW9 hg9 hn9=>?_
  refine Wo_appendO (k:=1) (l:=[i64 (k:Int)]) hw1 (hE47.trans hE9) rfl rfl rfl rfl rfl Und.h inferInstance rfl rfl (hO7.ext hE9) (asrc_row Und.h (by intro k;simp) (rowAt_cells hg9 rfl)) rfl rfl (by omega) (by omega) fun va ha hWa hOa hEa=>?_
  rw[<-hul,<-hum] at hOa
  refine zy ?_
  refine⟨(k+1,va),(by show l.length-(k+1)<l.length-k;omega),rfl,hk',hEa,?_,rfl,rfl,rfl,rfl,rfl,rfl,trivial⟩
  simp only[hsu];exact hOa
 ·rw[if_neg (by rw[decide_eq_false h8];simp)] at hsu
  refine Wo_do rfl rfl rfl rfl (A_ff h8 (A_gtr rfl rfl)) ?_
  refine zy ?_
  refine⟨(k+1,v),(by show l.length-(k+1)<l.length-k;omega),rfl,hk',hE47,?_,rfl,rfl,rfl,rfl,rfl,rfl,trivial⟩
  simp only[hsu];exact hO7
end Go.Dw
/- T3: contracts: subtitles as they stand after cuts; lists compared. -/
namespace Go.Dw
open Go Go.Dx Go.Proofs
set_option maxRecDepth 100000
def ttVs (x:Ttl):List Value:=[i64 x.a,i64 x.b,str x.text]
theorem ttRows_len (l:List Ttl):(l.flatMap ttVs).length=l.length*3:=by
 induction l with
 | nil=>rfl
 | cons x l ih=>rw[List.flatMap_cons,List.length_append,ih,List.length_cons];show 3+_=_;omega
theorem ttRows_at {h0 h:Heap}{v:Value}{P:List Ttl}(hF:FreshSl h0 h v 75 3 (P.flatMap ttVs) P.length):∃a c,v=.slice a P.length c/\RowsAt 3 TtlR h a P:=by
 rcases hF with ⟨rfl,_,h0⟩|⟨b,sp,op,rfl,hg,_⟩
 ·rw[h0]
  exact⟨none,0,rfl,fun i hi=>absurd hi (by omega)⟩
 ·refine⟨some ⟨b,0,sp⟩,P.length,rfl,fun i hi=>⟨b,0,sp,rfl,_,rowAt_cells hg ?_,rfl⟩⟩
  rw[Nat.zero_add]
  exact cut_flat (f:=ttVs) (k:=3) hi fun _ _=>rfl
theorem ttRows_set (R:List Ttl)(p q m:Int)(tx:List UInt8):((R++[(⟨p,q,tx⟩:Ttl)]).flatMap ttVs).set (R.length*3+1) (i64 m)=(R++[(⟨p,m,tx⟩:Ttl)]).flatMap ttVs:=by
 rw[List.flatMap_append,List.flatMap_append,List.set_append_right _ _ (by rw[ttRows_len];omega),ttRows_len,show R.length*3+1-R.length*3=1 by omega]
 rfl
theorem cutGo_vals:∀{l:List Cut}{n:Int},(cutGo n l).2=0\/(cutGo n l).2=7\/(cutGo n l).2=2
 | [],_=>.inl rfl
 | c::cs,n=>by
  by_cases h:(c.a<0\/n-1<c.a)\/(c.b<0\/n-1<c.b)
  ·rw[cutGo_bad h];exact .inr (.inl rfl)
  ·by_cases h2:c.b<c.a
   ·rw[cutGo_arg h h2];exact .inr (.inr rfl)
   ·rw[cutGo_on h h2];exact cutGo_vals
theorem cutS_ne4 {n:Int}{cs:List Cut}:(cutS n cs).2≠4:=by
 unfold cutS
 split
 ·decide
 ·split
  ·decide
  ·rcases cutGo_vals (l:=cs) (n:=n) with e|e|e <;> rw[e] <;> decide
theorem after0_bad {n:Int}{cs:List Cut}(h:¬(cutS n cs).2=0):(afterV n cs 0).2=(cutS n cs).2:=by unfold afterV;rw[if_pos h]
theorem after_at {n i:Int}{cs:List Cut}(h:(cutS n cs).2=0)(h0:0<=i)(h1:i<n):afterV n cs i=match afterC cs i with|none=>((0:Int),(4:Int))|some m=>(m,(0:Int)):=by
 rw[afterV_on h,if_neg (by omega)];rfl
theorem after0_ok {n:Int}{cs:List Cut}(h:(cutS n cs).2=0):(afterV n cs 0).2=0\/(afterV n cs 0).2=4:=by
 obtain⟨h1,-⟩:=cutS_ok h
 rw[after_at h (Int.le_refl 0) (by omega)]
 split
 ·exact .inr rfl
 ·exact .inl rfl
def retErr (n:Int)(cs:List Cut)(l:List Ttl):Int:=if (cutS n cs).2≠0 then (cutS n cs).2 else if titlesErr l≠0 then titlesErr l else if (l.any fun x=>decide (n<=x.b))=true then 7 else 0
theorem ret_ok {n:Int}{cs:List Cut}{l:List Ttl}(h:retErr n cs l=0):(cutS n cs).2=0/\titlesErr l=0/\∀x∈l,x.b<n:=by
 unfold retErr at h
 split at h
 ·rename_i h1;exact absurd h h1
 rename_i h1
 split at h
 ·rename_i h2;exact absurd h h2
 rename_i h2
 split at h
 ·cases h
 rename_i h3
 refine⟨Decidable.not_not.1 h1,Decidable.not_not.1 h2,fun x hx=>?_⟩
 have:¬n<=x.b:=fun e=>h3 (List.any_eq_true.2 ⟨x,hx,decide_eq_true e⟩)
 omega
theorem pair_last:∀{l:List Ttl},l.Pairwise (fun x y=>x.b<y.a)->(∀x∈l,x.a<=x.b)->∀{i:Nat}(hi:i<l.length),l[i].b<=(l[l.length-1]'(by omega)).b:=by
 intro l hp hv i hi
 rcases Nat.lt_or_ge i (l.length-1) with g|g
 ·have h1:=List.pairwise_iff_getElem.1 hp i (l.length-1) hi (by omega) g
  have h2:=hv _ (List.getElem_mem (show l.length-1<l.length by omega))
  omega
 ·have:i=l.length-1:=by omega
  subst this
  exact Int.le_refl _
theorem last_any {n:Int}{l:List Ttl}(hp:l.Pairwise (fun x y=>x.b<y.a))(hv:∀x∈l,x.a<=x.b)(h0:0<l.length):(l.any fun x=>decide (n<=x.b))=decide (n<=(l[l.length-1]'(by omega)).b):=by
 rw[Bool.eq_iff_iff,decide_eq_true_eq,List.any_eq_true]
 constructor
 ·rintro⟨x,hx,e⟩
  obtain⟨i,hi,rfl⟩:=List.getElem_of_mem hx
  have:=pair_last hp hv hi
  have e':=of_decide_eq_true e
  omega
 ·intro e
  exact⟨_,List.getElem_mem (by omega),decide_eq_true e⟩
def curT (cs:List Cut)(x:Ttl)(f:Nat):List Ttl:=if cntC cs x.a.toNat<cntC cs f then [⟨(cntC cs x.a.toNat:Nat),(cntC cs f:Nat)-1,x.text⟩] else []
theorem curT_0 (cs:List Cut)(x:Ttl):curT cs x x.a.toNat=[]:=by unfold curT;rw[if_neg (Nat.lt_irrefl _)]
theorem curT_end {cs:List Cut}{x:Ttl}{f:Nat}(hf:f=x.b.toNat+1):curT cs x f=(retime1 cs x).toList:=by
 subst hf
 unfold curT retime1
 split <;> rfl
theorem retimeS_snoc (cs:List Cut)(l:List Ttl)(x:Ttl):retimeS cs (l++[x])=retimeS cs l++(retime1 cs x).toList:=by
 unfold retimeS
 rw[List.filterMap_append]
 cases h:retime1 cs x <;> simp[h]
theorem retimeS_len (cs:List Cut)(l:List Ttl):(retimeS cs l).length<=l.length:=List.length_filterMap_le _ _
def RetR (n:Int)(cs:List Cut)(l:List Ttl)(h:Heap)(v:Value)(h':Heap):Prop:=Ext h h'/\((¬retErr n cs l=0/\v=.tuple ⟨[.slice none 0 0,i64 (retErr n cs l)]⟩)\/(retErr n cs l=0/\∃va,v=.tuple ⟨[va,i64 0]⟩/\FreshSl h h' va 75 3 ((retimeS cs l).flatMap ttVs) (retimeS cs l).length))
set_option maxHeartbeats 4000000 in
theorem scRetime_sv {n:Int}{cs:List Cut}{l:List Ttl}{ac al:Option Addr}{cc cl:Nat}{h:Heap}(hI:I64 n)(hcs:RowsAt 2 CutR h ac cs)(hcF:∀c∈cs,c.Fit)(hcL:Len cs)(hl:RowsAt 3 TtlR h al l)(hF:∀x∈l,x.Fit)(hL:Len l)(hLib:LibAt h):Sv Tryz.prog 28 [i64 n,.slice ac cs.length cc,.slice al l.length cl] h (RetP (RetR n cs l h)):=by
 refine Sv_wf fun hw=>?_
 refine Sv_enter Tryz.func28 rfl (by rw[Tryz.ntmps28];rfl) ?_;show Wc Tryz.prog ⟨28,89,none⟩ _ _ _ _ _
 refine zy ?_
 refine Wo_callE rfl rfl rfl rfl rfl Bod.h rfl rfl (after_sv hI (by decide) hcs hcF hcL) fun h1 hE1=>?_
 by_cases hc0:(cutS n cs).2=0
 rotate_left
 ·have e:retErr n cs l=(cutS n cs).2:=by unfold retErr;rw[if_pos hc0]
  have e4:=cutS_ne4 (n:=n) (cs:=cs)
  rw[after0_bad hc0]
  generalize (cutS n cs).2=q at *
  refine zy ?_
  refine Wo_do rfl rfl rfl rfl (A_tt hc0 (A_neq rfl rfl)) ?_
  refine zy ?_
  refine Wo_do rfl rfl rfl rfl (A_tt e4 (A_neq rfl rfl)) ?_
  refine zy ?_
  exact Wc_ret (Lv_ret rfl ⟨hE1,.inl ⟨by rw[e];exact hc0,by rw[e];rfl⟩⟩)
 have hafter:=fun {i:Nat} (h1:(i:Int)<n)=>after_at (i:=(i:Int)) hc0 (by omega) h1
 have h04:=after0_ok hc0
 obtain⟨n1,n2,n3,hok⟩:=cutS_ok hc0
 have hce:=cuts_each hok
 have er:retErr n cs l=if titlesErr l≠0 then titlesErr l else if (l.any fun x=>decide (n<=x.b))=true then 7 else 0:=by unfold retErr;rw[if_neg (fun e=>e hc0)]
 rcases h04 with e04|e04
 ·rw[e04]
  refine zy ?_
  refine Wo_do rfl rfl rfl rfl (A_ff (by decide) (A_neq rfl rfl)) ?_
  refine zy ?_
  refine Wo_callE rfl rfl rfl rfl rfl Bod.h rfl rfl (strange_sv (RowsAt.ext (R:=TtlR) (fun x _=>x) hl hE1) hF hL (hLib.ext hE1)) fun h2 hE2=>?_
  have hE:=hE1.trans hE2
  by_cases ht:titlesErr l=0
  rotate_left
  ·rw[if_pos ht] at er
   generalize titlesErr l=q at *
   refine zy ?_
   refine Wo_do rfl rfl rfl rfl (A_tt ht (A_neq rfl rfl)) ?_
   refine zy ?_
   exact Wc_ret (Lv_ret rfl ⟨hE,.inl ⟨by rw[er];exact ht,by rw[er];rfl⟩⟩)
  rw[if_neg (fun e=>e ht)] at er
  obtain⟨hn40,hx,hpw⟩:=titles_each ht
  rw[ht]
  refine zy ?_
  refine Wo_do rfl rfl rfl rfl (A_ff (by decide) (A_neq rfl rfl)) ?_
  refine zy ?_
  by_cases hl0:0<l.length
  ·have hla:=last_any (n:=n) hpw (fun x h=>(hx x h).2.1) hl0
   obtain⟨bl,ol,oal,rfl,rowl,hrl,hrr⟩:=hl (l.length-1) (by omega)
   have zl:cellAt h2 bl (ol+(l.length-1)*3+1)=some (i64 (l[l.length-1]'(by omega)).b):=hE.cell (cell_of_row hrl (by obtain rfl:=hrr;rfl))
   rw[hla] at er
   generalize (l[l.length-1]'(by omega)).b=lb at *
   refine Wo_do rfl rfl rfl rfl (A_tt (by omega) (A_gtr rfl rfl)) ?_
   refine zy ?_
   refine Wo_do rfl rfl rfl rfl (A_indexAddr (k:=l.length-1) Und.h Tsz.h rfl rfl (by omega) (by omega)) ?_
   refine zy ?_
   by_cases hge:n<=lb
   ·rw[if_pos (decide_eq_true hge)] at er
    refine Wo_do rfl rfl rfl rfl (A_tt hge (A_geq rfl rfl)) ?_
    refine zy ?_
    exact Wc_ret (Lv_ret rfl ⟨hE,.inl ⟨by rw[er];decide,by rw[er];rfl⟩⟩)
   rw[if_neg (by rw[decide_eq_false hge];simp)] at er
   refine Wo_do rfl rfl rfl rfl (A_ff hge (A_geq rfl rfl)) ?_
   refine zy ?_
   have hbn:∀x∈l,x.b<n:=(ret_ok er).2.2
   refine Wc_wf fun hw2=>?_
   refine Wc_loop (fun (s:Nat×Value) m ds h'=>ds=[]/\s.1<=l.length/\Ext h2 h'/\Own h2 h' [slI h2 s.2 75 3 ((retimeS cs (l.take s.1)).flatMap ttVs) (retimeS cs (l.take s.1)).length] ∧
     AllK m [(0,i64 n),(1,.slice ac cs.length cc),(6,s.2),(46,.slice (some ⟨bl,ol,oal⟩) l.length cl),(47,i64 l.length),(48,i64 s.1)]) (fun s=>l.length-s.1) (0,.slice none 0 0) ?_ ?_
   ·exact⟨rfl,Nat.zero_le _,Ext.refl _,(Own.nil h2 h2).nilSl 75 3,rfl,rfl,rfl,rfl,rfl,rfl,trivial⟩
   rintro⟨k,v⟩ m ds h3 ⟨rfl,hk,hE3,hO3,hall⟩
   simp only at hk hO3 hall
   refine Wc_wf fun hw3=>?_
   refine Wc.le ?_ (Le.kn hall)
   refine zy ?_
   refine Wo_dec rfl rfl rfl rfl (A_lss rfl rfl) (fun h4=>?_) (fun h4=>?_)
   rotate_left
   ·have hk2:k=l.length:=by omega
    subst hk2
    rw[List.take_length] at hO3
    have q1:=hO3.p1
    have hb1:=hE.2.1
    refine zy ?_
    exact Wc_ret (Lv_ret rfl ⟨hE.trans hE3,.inr ⟨er,v,rfl,FreshSl.base q1 hb1⟩⟩)
   have hk':k<l.length:=by simpa using h4
   obtain⟨b0,o0,oa0,e0,row,hrow,hr'⟩:=hl k hk'
   cases e0
   obtain⟨x1,x2,x3,-⟩:=hx _ (List.getElem_mem hk')
   have x4:=hbn _ (List.getElem_mem hk')
   have htk:l.take (k+1)=l.take k++[l[k]]:=by rw[List.take_add_one,List.getElem?_eq_getElem hk'];rfl
   have hrs:=retimeS_snoc cs (l.take k) l[k]
   rw[<-htk] at hrs
   have hrl0:=retimeS_len cs (l.take k)
   rw[List.length_take] at hrl0
   generalize l[k]=x at *
   obtain rfl:=hr'
   replace hrow:=(hE.trans hE3).row hrow
   generalize retimeS cs (l.take k)=R at *
   refine zy ?_
   refine Wo_do rfl rfl rfl rfl (A_ix Und.h Tsz.h rfl rfl) ?_
   refine zy ?_
   refine Wo_allocStore rfl rfl Zr.h Tsz.h rfl (fun _=>rfl) rfl rfl rfl fun h5 hE5 hW5 hg5 hn5=>?_
   have hO5:=(hO3.newCe hw3 hE3.2.1 hE5 hg5 (Nat.le_refl _))
   replace hE3:=hE3.trans hE5
   generalize h3.nx=b9 at *
   clear hrow hn5 hE5 hO3 hw3
   clear h3
   refine zy ?_
   have hxa:(x.a.toNat:Int)=x.a:=Int.toNat_of_nonneg x1
   refine Wc.mono (Q:=fun z m' ds' h'=>z=.exit 2/\ds'=[]/\Ext h2 h'/\∃v',Own h2 h' [ceI b9 [i64 x.a,i64 x.b,str x.text] 75 false,slI h2 v' 75 3 ((R++curT cs x (x.b.toNat+1)).flatMap ttVs) (R++curT cs x (x.b.toNat+1)).length]/\AllK m' [(0,i64 n),(1,.slice ac cs.length cc),(6,v'),(46,.slice (some ⟨bl,ol,oal⟩) l.length cl),(47,i64 l.length),(48,i64 k)])
    (Wc_loop (fun (s:Nat×Value) m ds h'=>ds=[]/\x.a.toNat<=s.1/\s.1<=x.b.toNat+1/\Ext h2 h'/\Own h2 h' [ceI b9 [i64 x.a,i64 x.b,str x.text] 75 false,slI h2 s.2 75 3 ((R++curT cs x s.1).flatMap ttVs) (R++curT cs x s.1).length]/\AllK m [(0,i64 n),(1,.slice ac cs.length cc),(6,s.2),(9,.pointer (some ⟨b9,0,none⟩)),(10,i64 ((cntC cs s.1:Int)-cntC cs x.a.toNat)),(11,i64 s.1),(46,.slice (some ⟨bl,ol,oal⟩) l.length cl),(47,i64 l.length),(48,i64 k)])
     (fun s=>x.b.toNat+1-s.1) (x.a.toNat,v) ?_ ?_) ?_
   ·refine⟨rfl,Nat.le_refl _,by show x.a.toNat<=x.b.toNat+1;omega,hE3,?_,rfl,rfl,rfl,rfl,?_,?_,rfl,rfl,rfl,trivial⟩
    ·rw[curT_0,List.append_nil];exact hO5
    ·rw[Int.sub_self];rfl
    ·rw[hxa];rfl
   rotate_left
   ·rintro _ m' ds' h6 ⟨rfl,rfl,hE6,v',hO6,hall⟩
    show Wc _ _ _ _ _ _ _
    refine Wc.le ?_ (Le.kn hall)
    rw[curT_end rfl,<-hrs] at hO6
    refine zy ?_
    exact⟨(k+1,v'),(by show l.length-(k+1)<l.length-k;omega),rfl,hk',hE6,hO6.tail,rfl,rfl,rfl,rfl,rfl,rfl,trivial⟩
   clear hE3 hO5 hW5 hall hg5
   clear h5
   rintro⟨f,u⟩ m ds h5 ⟨rfl,hf1,hf2,hE5,hO5,hall⟩
   simp only at hf1 hf2 hO5 hall
   refine Wc_wf fun hw5=>?_
   have hg5:h5.get b9=some (.cells [i64 x.a,i64 x.b,str x.text] 75 false):=hO5.p1
   have hcm:=cntC_mono cs hf1
   have hcs1:=cntC_succ cs f
   have hci:=fun {m:Int}=>after_cnt hce (i:=f) (n:=m)
   refine Wc.le ?_ (Le.kn hall)
   refine zy ?_
   refine Wo_dec rfl rfl rfl rfl (A_leq rfl rfl) (fun h6=>?_) (fun h6=>?_)
   rotate_left
   ·have hf3:f=x.b.toNat+1:=by omega
    subst hf3
    refine zy ?_
    exact⟨rfl,rfl,hE5,u,hO5,rfl,rfl,rfl,rfl,rfl,rfl,trivial⟩
   have hfn:(f:Int)<n:=by omega
   have haf:=after_sv hI (show I64 (f:Int) from⟨by omega,by omega⟩) (RowsAt.ext (R:=CutR) (fun x _=>x) hcs (hE.trans hE5)) hcF hcL (cc:=cc)
   rw[hafter hfn] at haf
   cases hA:afterC cs (f:Int) with
   | none =>
    rw[hA] at haf hcs1
    have hcs2:cntC cs (f+1)=cntC cs f:=hcs1
    have hcu:curT cs x (f+1)=curT cs x f:=by unfold curT;rw[hcs2]
    refine zy ?_
    refine Wo_callE rfl rfl rfl rfl rfl Bod.h rfl rfl (by exact haf) fun h7 hE7=>?_
    refine zy ?_
    refine Wo_do rfl rfl rfl rfl (A_tt (by decide) (A_neq rfl rfl)) ?_
    refine zy ?_
    refine⟨(f+1,u),(by show x.b.toNat+1-(f+1)<x.b.toNat+1-f;omega),rfl,by show _<=f+1;omega,by show f+1<=_;omega,hE5.trans hE7,?_,rfl,rfl,rfl,rfl,?_,rfl,rfl,rfl,rfl,trivial⟩
    ·rw[hcu];exact hO5.ext hE7
    ·rw[hcs2];rfl
   | some m =>
    rw[hA] at haf hcs1
    have hcs2:cntC cs (f+1)=cntC cs f+1:=hcs1
    have hm:=hci hA
    have hcle:cntC cs f<=f:=by
     unfold cntC
     have:=List.length_filter_le (fun j:Nat=>(afterC cs (j:Int)).isSome) (List.range f)
     rwa [List.length_range] at this
    refine zy ?_
    refine Wo_callE rfl rfl rfl rfl rfl Bod.h rfl rfl (by exact haf) fun h7 hE7=>?_
    have hO7:=hO5.ext hE7
    have hE57:=hE5.trans hE7
    have g7:=hE7.get hg5
    clear haf
    refine zy ?_
    refine Wo_do rfl rfl rfl rfl (A_ff (by exact fun e=>e rfl) (A_neq rfl rfl)) ?_
    refine zy ?_
    by_cases hz:(cntC cs f:Int)-cntC cs x.a.toNat=0
    ·have hcu:curT cs x f=[]:=by unfold curT;rw[if_neg (by omega)]
     have hcu2:curT cs x (f+1)=[⟨(cntC cs x.a.toNat:Nat),m,x.text⟩]:=by
      unfold curT
      rw[if_pos (by omega),hcs2,hm]
      congr 2
      omega
     have hma:m=(cntC cs x.a.toNat:Nat):=by omega
     rw[hcu,List.append_nil] at hO7
     refine Wo_do rfl rfl rfl rfl (A_tt hz (A_eql rfl rfl)) ?_
     refine zy ?_
     refine Wo_bs rfl rfl Und.h Tsz.h Zr.h rfl rfl rfl rfl rfl fun h8 hE8 hW8 hg8 hn8=>?_
     have hrl:(R++[(⟨m,0,x.text⟩:Ttl)]).length=R.length+1:=by simp
     have hrm:(R++[(⟨m,0,x.text⟩:Ttl)]).flatMap ttVs=R.flatMap ttVs++[i64 m,i64 0,str x.text]:=by rw[List.flatMap_append];rfl
     refine Wo_appendO (k:=1) (l:=[i64 m,i64 0,str x.text]) hw2 (hE57.trans hE8) rfl rfl rfl rfl rfl Und.h inferInstance rfl rfl ((hO7.ext hE8).pick 1 rfl) (asrc_row Und.h (by intro k;simp) (rowAt_cells hg8 rfl)) rfl rfl (by omega) (by omega) fun va ha hWa hOa hEa=>?_
     rw[<-hrl,<-hrm] at hOa
     obtain⟨bu,spu,opu,rfl,gu,-,-⟩:=FreshSl.blk (show FreshSl h2 ha va 75 3 _ _ from hOa.p1) (by rw[hrl];exact Nat.succ_pos _)
     have hset:=ttRows_set R m 0 m x.text
     refine zy ?_
     refine Wo_do rfl rfl rfl rfl (A_indexAddr (k:=R.length) Und.h Tsz.h rfl rfl (by rw[hrl];omega) (by rw[hrl];omega)) ?_
     refine zy ?_
     refine Wo_store rfl Tsz.h rfl rfl gu rfl rfl (by exact lay_one (by rw[ttRows_len,hrl];omega)) fun hb hUb=>?_
     rw[Nat.zero_add,hset] at hUb
     obtain⟨hOb,hEb⟩:=hOa.setSlK hWa hEa hw2 hUb (by rw[ttRows_len,ttRows_len];simp)
     have hOc:=hOb.unpick 1 (Nat.le_of_ble_eq_true rfl)
     refine zy ?_
     refine⟨(f+1,_),(by show x.b.toNat+1-(f+1)<x.b.toNat+1-f;omega),rfl,by show _<=f+1;omega,by show f+1<=_;omega,hEb,?_,rfl,rfl,rfl,rfl,?_,rfl,rfl,rfl,rfl,trivial⟩
     ·rw[hcu2]
      simp only[List.length_append,List.length_singleton] at hOc ⊢
      rw[<-hma]
      exact hOc
     ·rw[hcs2,show ((cntC cs f+1:Nat):Int)-cntC cs x.a.toNat=(cntC cs f:Int)-cntC cs x.a.toNat+1 by omega];rfl
    ·have hcu:curT cs x f=[⟨(cntC cs x.a.toNat:Nat),(cntC cs f:Nat)-1,x.text⟩]:=by unfold curT;rw[if_pos (by omega)]
     have hcu2:curT cs x (f+1)=[⟨(cntC cs x.a.toNat:Nat),m,x.text⟩]:=by
      unfold curT
      rw[if_pos (by omega),hcs2,hm]
      congr 2
      omega
     rw[hcu] at hO7
     have hOa:=hO7.pick 1 rfl
     have hrl:(R++[(⟨(cntC cs x.a.toNat:Nat),(cntC cs f:Nat)-1,x.text⟩:Ttl)]).length=R.length+1:=by simp
     obtain⟨bu,spu,opu,rfl,gu,-,-⟩:=FreshSl.blk (show FreshSl h2 h7 u 75 3 _ _ from hOa.p1) (by rw[hrl];exact Nat.succ_pos _)
     have hset:=ttRows_set R (cntC cs x.a.toNat:Nat) ((cntC cs f:Nat)-1) m x.text
     refine Wo_do rfl rfl rfl rfl (A_ff hz (A_eql rfl rfl)) ?_
     refine Wo_wf fun hw7=>?_
     refine zy ?_
     refine Wo_do rfl rfl rfl rfl (A_indexAddr (k:=R.length) Und.h Tsz.h rfl rfl (by rw[hrl];omega) (by rw[hrl];omega)) ?_
     refine zy ?_
     refine Wo_store rfl Tsz.h rfl rfl gu rfl rfl (by exact lay_one (by rw[ttRows_len,hrl];omega)) fun hb hUb=>?_
     rw[Nat.zero_add,hset] at hUb
     obtain⟨hOb,hEb⟩:=hOa.setSlK hw7 hE57 hw2 hUb (by rw[ttRows_len,ttRows_len];simp)
     have hOc:=hOb.unpick 1 (Nat.le_of_ble_eq_true rfl)
     refine zy ?_
     refine⟨(f+1,_),(by show x.b.toNat+1-(f+1)<x.b.toNat+1-f;omega),rfl,by show _<=f+1;omega,by show f+1<=_;omega,hEb,?_,rfl,rfl,rfl,rfl,?_,rfl,rfl,rfl,rfl,trivial⟩
     ·rw[hcu2]
      simp only[List.length_append,List.length_singleton] at hOc ⊢
      exact hOc
     ·rw[hcs2,show ((cntC cs f+1:Nat):Int)-cntC cs x.a.toNat=(cntC cs f:Int)-cntC cs x.a.toNat+1 by omega];rfl
  ·have hle:l=[]:=List.eq_nil_of_length_eq_zero (by omega)
   subst hle
   have er0:retErr n cs []=0:=er
   refine Wo_do rfl rfl rfl rfl (A_ff (by omega) (A_gtr rfl rfl)) ?_
   refine zy ?_
   refine Wc_loop (fun (_:Unit) m ds h'=>ds=[]/\h2=h'/\AllK m [(6,.slice none 0 0),(47,i64 0),(48,i64 0)]) (fun _=>0) () ⟨rfl,rfl,rfl,rfl,rfl,trivial⟩ ?_
   rintro _ m ds h' ⟨rfl,rfl,hall⟩
   refine Wc.le ?_ (Le.kn hall)
   refine zy ?_
   refine Wo_do rfl rfl rfl rfl (A_ff (by decide) (A_lss rfl rfl)) ?_
   refine zy ?_
   exact Wc_ret (Lv_ret rfl ⟨hE,.inr ⟨er0,.slice none 0 0,rfl,FreshSl.nil _ _ _ _⟩⟩)
 ·rw[e04]
  refine zy ?_
  refine Wo_do rfl rfl rfl rfl (A_tt (by decide) (A_neq rfl rfl)) ?_
  refine zy ?_
  refine Wo_do rfl rfl rfl rfl (A_ff (by decide) (A_neq rfl rfl)) ?_
  refine zy ?_
  refine Wo_callE rfl rfl rfl rfl rfl Bod.h rfl rfl (strange_sv (RowsAt.ext (R:=TtlR) (fun x _=>x) hl hE1) hF hL (hLib.ext hE1)) fun h2 hE2=>?_
  have hE:=hE1.trans hE2
  by_cases ht:titlesErr l=0
  rotate_left
  ·rw[if_pos ht] at er
   generalize titlesErr l=q at *
   refine zy ?_
   refine Wo_do rfl rfl rfl rfl (A_tt ht (A_neq rfl rfl)) ?_
   refine zy ?_
   exact Wc_ret (Lv_ret rfl ⟨hE,.inl ⟨by rw[er];exact ht,by rw[er];rfl⟩⟩)
  rw[if_neg (fun e=>e ht)] at er
  obtain⟨hn40,hx,hpw⟩:=titles_each ht
  rw[ht]
  refine zy ?_
  refine Wo_do rfl rfl rfl rfl (A_ff (by decide) (A_neq rfl rfl)) ?_
  refine zy ?_
  by_cases hl0:0<l.length
  ·have hla:=last_any (n:=n) hpw (fun x h=>(hx x h).2.1) hl0
   obtain⟨bl,ol,oal,rfl,rowl,hrl,hrr⟩:=hl (l.length-1) (by omega)
   have zl:cellAt h2 bl (ol+(l.length-1)*3+1)=some (i64 (l[l.length-1]'(by omega)).b):=hE.cell (cell_of_row hrl (by obtain rfl:=hrr;rfl))
   rw[hla] at er
   generalize (l[l.length-1]'(by omega)).b=lb at *
   refine Wo_do rfl rfl rfl rfl (A_tt (by omega) (A_gtr rfl rfl)) ?_
   refine zy ?_
   refine Wo_do rfl rfl rfl rfl (A_indexAddr (k:=l.length-1) Und.h Tsz.h rfl rfl (by omega) (by omega)) ?_
   refine zy ?_
   by_cases hge:n<=lb
   ·rw[if_pos (decide_eq_true hge)] at er
    refine Wo_do rfl rfl rfl rfl (A_tt hge (A_geq rfl rfl)) ?_
    refine zy ?_
    exact Wc_ret (Lv_ret rfl ⟨hE,.inl ⟨by rw[er];decide,by rw[er];rfl⟩⟩)
   rw[if_neg (by rw[decide_eq_false hge];simp)] at er
   refine Wo_do rfl rfl rfl rfl (A_ff hge (A_geq rfl rfl)) ?_
   refine zy ?_
   have hbn:∀x∈l,x.b<n:=(ret_ok er).2.2
   refine Wc_wf fun hw2=>?_
   refine Wc_loop (fun (s:Nat×Value) m ds h'=>ds=[]/\s.1<=l.length/\Ext h2 h'/\Own h2 h' [slI h2 s.2 75 3 ((retimeS cs (l.take s.1)).flatMap ttVs) (retimeS cs (l.take s.1)).length] ∧
     AllK m [(0,i64 n),(1,.slice ac cs.length cc),(6,s.2),(46,.slice (some ⟨bl,ol,oal⟩) l.length cl),(47,i64 l.length),(48,i64 s.1)]) (fun s=>l.length-s.1) (0,.slice none 0 0) ?_ ?_
   ·exact⟨rfl,Nat.zero_le _,Ext.refl _,(Own.nil h2 h2).nilSl 75 3,rfl,rfl,rfl,rfl,rfl,rfl,trivial⟩
   rintro⟨k,v⟩ m ds h3 ⟨rfl,hk,hE3,hO3,hall⟩
   simp only at hk hO3 hall
   refine Wc_wf fun hw3=>?_
   refine Wc.le ?_ (Le.kn hall)
   refine zy ?_
   refine Wo_dec rfl rfl rfl rfl (A_lss rfl rfl) (fun h4=>?_) (fun h4=>?_)
   rotate_left
   ·have hk2:k=l.length:=by omega
    subst hk2
    rw[List.take_length] at hO3
    have q1:=hO3.p1
    have hb1:=hE.2.1
    refine zy ?_
    exact Wc_ret (Lv_ret rfl ⟨hE.trans hE3,.inr ⟨er,v,rfl,FreshSl.base q1 hb1⟩⟩)
   have hk':k<l.length:=by simpa using h4
   obtain⟨b0,o0,oa0,e0,row,hrow,hr'⟩:=hl k hk'
   cases e0
   obtain⟨x1,x2,x3,-⟩:=hx _ (List.getElem_mem hk')
   have x4:=hbn _ (List.getElem_mem hk')
   have htk:l.take (k+1)=l.take k++[l[k]]:=by rw[List.take_add_one,List.getElem?_eq_getElem hk'];rfl
   have hrs:=retimeS_snoc cs (l.take k) l[k]
   rw[<-htk] at hrs
   have hrl0:=retimeS_len cs (l.take k)
   rw[List.length_take] at hrl0
   generalize l[k]=x at *
   obtain rfl:=hr'
   replace hrow:=(hE.trans hE3).row hrow
   generalize retimeS cs (l.take k)=R at *
   refine zy ?_
   refine Wo_do rfl rfl rfl rfl (A_ix Und.h Tsz.h rfl rfl) ?_
   refine zy ?_
   refine Wo_allocStore rfl rfl Zr.h Tsz.h rfl (fun _=>rfl) rfl rfl rfl fun h5 hE5 hW5 hg5 hn5=>?_
   have hO5:=(hO3.newCe hw3 hE3.2.1 hE5 hg5 (Nat.le_refl _))
   replace hE3:=hE3.trans hE5
   generalize h3.nx=b9 at *
   clear hrow hn5 hE5 hO3 hw3
   clear h3
   refine zy ?_
   have hxa:(x.a.toNat:Int)=x.a:=Int.toNat_of_nonneg x1
   refine Wc.mono (Q:=fun z m' ds' h'=>z=.exit 2/\ds'=[]/\Ext h2 h'/\∃v',Own h2 h' [ceI b9 [i64 x.a,i64 x.b,str x.text] 75 false,slI h2 v' 75 3 ((R++curT cs x (x.b.toNat+1)).flatMap ttVs) (R++curT cs x (x.b.toNat+1)).length]/\AllK m' [(0,i64 n),(1,.slice ac cs.length cc),(6,v'),(46,.slice (some ⟨bl,ol,oal⟩) l.length cl),(47,i64 l.length),(48,i64 k)])
    (Wc_loop (fun (s:Nat×Value) m ds h'=>ds=[]/\x.a.toNat<=s.1/\s.1<=x.b.toNat+1/\Ext h2 h'/\Own h2 h' [ceI b9 [i64 x.a,i64 x.b,str x.text] 75 false,slI h2 s.2 75 3 ((R++curT cs x s.1).flatMap ttVs) (R++curT cs x s.1).length]/\AllK m [(0,i64 n),(1,.slice ac cs.length cc),(6,s.2),(9,.pointer (some ⟨b9,0,none⟩)),(10,i64 ((cntC cs s.1:Int)-cntC cs x.a.toNat)),(11,i64 s.1),(46,.slice (some ⟨bl,ol,oal⟩) l.length cl),(47,i64 l.length),(48,i64 k)])
     (fun s=>x.b.toNat+1-s.1) (x.a.toNat,v) ?_ ?_) ?_
   ·refine⟨rfl,Nat.le_refl _,by show x.a.toNat<=x.b.toNat+1;omega,hE3,?_,rfl,rfl,rfl,rfl,?_,?_,rfl,rfl,rfl,trivial⟩
    ·rw[curT_0,List.append_nil];exact hO5
    ·rw[Int.sub_self];rfl
    ·rw[hxa];rfl
   rotate_left
   ·rintro _ m' ds' h6 ⟨rfl,rfl,hE6,v',hO6,hall⟩
    show Wc _ _ _ _ _ _ _
    refine Wc.le ?_ (Le.kn hall)
    rw[curT_end rfl,<-hrs] at hO6
    refine zy ?_
    exact⟨(k+1,v'),(by show l.length-(k+1)<l.length-k;omega),rfl,hk',hE6,hO6.tail,rfl,rfl,rfl,rfl,rfl,rfl,trivial⟩
   clear hE3 hO5 hW5 hall hg5
   clear h5
   rintro⟨f,u⟩ m ds h5 ⟨rfl,hf1,hf2,hE5,hO5,hall⟩
   simp only at hf1 hf2 hO5 hall
   refine Wc_wf fun hw5=>?_
   have hg5:h5.get b9=some (.cells [i64 x.a,i64 x.b,str x.text] 75 false):=hO5.p1
   have hcm:=cntC_mono cs hf1
   have hcs1:=cntC_succ cs f
   have hci:=fun {m:Int}=>after_cnt hce (i:=f) (n:=m)
   refine Wc.le ?_ (Le.kn hall)
   refine zy ?_
   refine Wo_dec rfl rfl rfl rfl (A_leq rfl rfl) (fun h6=>?_) (fun h6=>?_)
   rotate_left
   ·have hf3:f=x.b.toNat+1:=by omega
    subst hf3
    refine zy ?_
    exact⟨rfl,rfl,hE5,u,hO5,rfl,rfl,rfl,rfl,rfl,rfl,trivial⟩
   have hfn:(f:Int)<n:=by omega
   have haf:=after_sv hI (show I64 (f:Int) from⟨by omega,by omega⟩) (RowsAt.ext (R:=CutR) (fun x _=>x) hcs (hE.trans hE5)) hcF hcL (cc:=cc)
   rw[hafter hfn] at haf
   cases hA:afterC cs (f:Int) with
   | none =>
    rw[hA] at haf hcs1
    have hcs2:cntC cs (f+1)=cntC cs f:=hcs1
    have hcu:curT cs x (f+1)=curT cs x f:=by unfold curT;rw[hcs2]
    refine zy ?_
    refine Wo_callE rfl rfl rfl rfl rfl Bod.h rfl rfl (by exact haf) fun h7 hE7=>?_
    refine zy ?_
    refine Wo_do rfl rfl rfl rfl (A_tt (by decide) (A_neq rfl rfl)) ?_
    refine zy ?_
    refine⟨(f+1,u),(by show x.b.toNat+1-(f+1)<x.b.toNat+1-f;omega),rfl,by show _<=f+1;omega,by show f+1<=_;omega,hE5.trans hE7,?_,rfl,rfl,rfl,rfl,?_,rfl,rfl,rfl,rfl,trivial⟩
    ·rw[hcu];exact hO5.ext hE7
    ·rw[hcs2];rfl
   | some m =>
    rw[hA] at haf hcs1
    have hcs2:cntC cs (f+1)=cntC cs f+1:=hcs1
    have hm:=hci hA
    have hcle:cntC cs f<=f:=by
     unfold cntC
     have:=List.length_filter_le (fun j:Nat=>(afterC cs (j:Int)).isSome) (List.range f)
     rwa [List.length_range] at this
    refine zy ?_
    refine Wo_callE rfl rfl rfl rfl rfl Bod.h rfl rfl (by exact haf) fun h7 hE7=>?_
    have hO7:=hO5.ext hE7
    have hE57:=hE5.trans hE7
    have g7:=hE7.get hg5
    clear haf
    refine zy ?_
    refine Wo_do rfl rfl rfl rfl (A_ff (by exact fun e=>e rfl) (A_neq rfl rfl)) ?_
    refine zy ?_
    by_cases hz:(cntC cs f:Int)-cntC cs x.a.toNat=0
    ·have hcu:curT cs x f=[]:=by unfold curT;rw[if_neg (by omega)]
     have hcu2:curT cs x (f+1)=[⟨(cntC cs x.a.toNat:Nat),m,x.text⟩]:=by
      unfold curT
      rw[if_pos (by omega),hcs2,hm]
      congr 2
      omega
     have hma:m=(cntC cs x.a.toNat:Nat):=by omega
     rw[hcu,List.append_nil] at hO7
     refine Wo_do rfl rfl rfl rfl (A_tt hz (A_eql rfl rfl)) ?_
     refine zy ?_
     refine Wo_bs rfl rfl Und.h Tsz.h Zr.h rfl rfl rfl rfl rfl fun h8 hE8 hW8 hg8 hn8=>?_
     have hrl:(R++[(⟨m,0,x.text⟩:Ttl)]).length=R.length+1:=by simp
     have hrm:(R++[(⟨m,0,x.text⟩:Ttl)]).flatMap ttVs=R.flatMap ttVs++[i64 m,i64 0,str x.text]:=by rw[List.flatMap_append];rfl
     refine Wo_appendO (k:=1) (l:=[i64 m,i64 0,str x.text]) hw2 (hE57.trans hE8) rfl rfl rfl rfl rfl Und.h inferInstance rfl rfl ((hO7.ext hE8).pick 1 rfl) (asrc_row Und.h (by intro k;simp) (rowAt_cells hg8 rfl)) rfl rfl (by omega) (by omega) fun va ha hWa hOa hEa=>?_
     rw[<-hrl,<-hrm] at hOa
     obtain⟨bu,spu,opu,rfl,gu,-,-⟩:=FreshSl.blk (show FreshSl h2 ha va 75 3 _ _ from hOa.p1) (by rw[hrl];exact Nat.succ_pos _)
     have hset:=ttRows_set R m 0 m x.text
     refine zy ?_
     refine Wo_do rfl rfl rfl rfl (A_indexAddr (k:=R.length) Und.h Tsz.h rfl rfl (by rw[hrl];omega) (by rw[hrl];omega)) ?_
     refine zy ?_
     refine Wo_store rfl Tsz.h rfl rfl gu rfl rfl (by exact lay_one (by rw[ttRows_len,hrl];omega)) fun hb hUb=>?_
     rw[Nat.zero_add,hset] at hUb
     obtain⟨hOb,hEb⟩:=hOa.setSlK hWa hEa hw2 hUb (by rw[ttRows_len,ttRows_len];simp)
     have hOc:=hOb.unpick 1 (Nat.le_of_ble_eq_true rfl)
     refine zy ?_
     refine⟨(f+1,_),(by show x.b.toNat+1-(f+1)<x.b.toNat+1-f;omega),rfl,by show _<=f+1;omega,by show f+1<=_;omega,hEb,?_,rfl,rfl,rfl,rfl,?_,rfl,rfl,rfl,rfl,trivial⟩
     ·rw[hcu2]
      simp only[List.length_append,List.length_singleton] at hOc ⊢
      rw[<-hma]
      exact hOc
     ·rw[hcs2,show ((cntC cs f+1:Nat):Int)-cntC cs x.a.toNat=(cntC cs f:Int)-cntC cs x.a.toNat+1 by omega];rfl
    ·have hcu:curT cs x f=[⟨(cntC cs x.a.toNat:Nat),(cntC cs f:Nat)-1,x.text⟩]:=by unfold curT;rw[if_pos (by omega)]
     have hcu2:curT cs x (f+1)=[⟨(cntC cs x.a.toNat:Nat),m,x.text⟩]:=by
      unfold curT
      rw[if_pos (by omega),hcs2,hm]
      congr 2
      omega
     rw[hcu] at hO7
     have hOa:=hO7.pick 1 rfl
     have hrl:(R++[(⟨(cntC cs x.a.toNat:Nat),(cntC cs f:Nat)-1,x.text⟩:Ttl)]).length=R.length+1:=by simp
     obtain⟨bu,spu,opu,rfl,gu,-,-⟩:=FreshSl.blk (show FreshSl h2 h7 u 75 3 _ _ from hOa.p1) (by rw[hrl];exact Nat.succ_pos _)
     have hset:=ttRows_set R (cntC cs x.a.toNat:Nat) ((cntC cs f:Nat)-1) m x.text
     refine Wo_do rfl rfl rfl rfl (A_ff hz (A_eql rfl rfl)) ?_
     refine Wo_wf fun hw7=>?_
     refine zy ?_
     refine Wo_do rfl rfl rfl rfl (A_indexAddr (k:=R.length) Und.h Tsz.h rfl rfl (by rw[hrl];omega) (by rw[hrl];omega)) ?_
     refine zy ?_
     refine Wo_store rfl Tsz.h rfl rfl gu rfl rfl (by exact lay_one (by rw[ttRows_len,hrl];omega)) fun hb hUb=>?_
     rw[Nat.zero_add,hset] at hUb
     obtain⟨hOb,hEb⟩:=hOa.setSlK hw7 hE57 hw2 hUb (by rw[ttRows_len,ttRows_len];simp)
     have hOc:=hOb.unpick 1 (Nat.le_of_ble_eq_true rfl)
     refine zy ?_
     refine⟨(f+1,_),(by show x.b.toNat+1-(f+1)<x.b.toNat+1-f;omega),rfl,by show _<=f+1;omega,by show f+1<=_;omega,hEb,?_,rfl,rfl,rfl,rfl,?_,rfl,rfl,rfl,rfl,trivial⟩
     ·rw[hcu2]
      simp only[List.length_append,List.length_singleton] at hOc ⊢
      exact hOc
     ·rw[hcs2,show ((cntC cs f+1:Nat):Int)-cntC cs x.a.toNat=(cntC cs f:Int)-cntC cs x.a.toNat+1 by omega];rfl
  ·have hle:l=[]:=List.eq_nil_of_length_eq_zero (by omega)
   subst hle
   have er0:retErr n cs []=0:=er
   refine Wo_do rfl rfl rfl rfl (A_ff (by omega) (A_gtr rfl rfl)) ?_
   refine zy ?_
   refine Wc_loop (fun (_:Unit) m ds h'=>ds=[]/\h2=h'/\AllK m [(6,.slice none 0 0),(47,i64 0),(48,i64 0)]) (fun _=>0) () ⟨rfl,rfl,rfl,rfl,rfl,trivial⟩ ?_
   rintro _ m ds h' ⟨rfl,rfl,hall⟩
   refine Wc.le ?_ (Le.kn hall)
   refine zy ?_
   refine Wo_do rfl rfl rfl rfl (A_ff (by decide) (A_lss rfl rfl)) ?_
   refine zy ?_
   exact Wc_ret (Lv_ret rfl ⟨hE,.inr ⟨er0,.slice none 0 0,rfl,FreshSl.nil _ _ _ _⟩⟩)
end Go.Dw
/- T4: contracts: subtitles as they stand after cuts, package telecineref11; lists compared. -/
namespace Go.Dw
open Go Go.Dx Go.Proofs
set_option maxRecDepth 100000
def rowT (cs:List Cut)(x:Ttl)(f:Nat):List Value:=if cntC cs x.a.toNat<cntC cs f then [i64 (cntC cs x.a.toNat:Nat),i64 ((cntC cs f:Nat)-1),str x.text] else [i64 x.a,i64 x.b,str x.text]
theorem Ttl.ext' {a b:Ttl}(h1:a.a=b.a)(h2:a.b=b.b)(h3:a.text=b.text):a=b:=by cases a;cases b;simp_all
instance:DecidableEq Ttl:=fun a b=>decidable_of_iff (a.a=b.a/\a.b=b.b/\a.text=b.text) ⟨fun ⟨h1,h2,h3⟩=>Ttl.ext' h1 h2 h3,fun h=>by subst h;simp⟩
end Go.Dw
