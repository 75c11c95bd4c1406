/- ZD: the records that a law puts down of the moves that are kept, with no program in sight. -/
import Derived.Test.YtdfadhkbhbbabaaGreatDoorAG5
import Derived.Test.YtdfadhkbhbbabaaGreatDoorAG15
set_option linter.unusedVariables false
set_option linter.unusedSimpArgs false
namespace Go.Dw
def dayM (m:Mv):Int:=m.hour.tdiv 24
theorem ZUE {m:Mv}(h:0<=m.hour):dayM m=m.hour / 24:=Int.tdiv_eq_ediv_of_nonneg h
def ZId (kept:List Mv)(i d:Int)(k:Nat):Nat->Bool
 | 0=>true
 | n+1=>ZId kept i d k n && (decide ((kept.getD (k+1+n) default).can≠i) || decide (dayM (kept.getD (k+1+n) default)≠d))
theorem ZKo {kept:List Mv}{i d:Int}{k:Nat}:∀{n:Nat},ZId kept i d k n=true ↔ ∀j,k<j->j<k+1+n->(kept.getD j default).can≠i\/dayM (kept.getD j default)≠d
 | 0=>⟨fun _ j h1 h2=>absurd h1 (by omega),fun _=>rfl⟩
 | n+1=>by
  rw[ZId,Bool.and_eq_true,ZKo,Bool.or_eq_true,decide_eq_true_eq,decide_eq_true_eq]
  constructor
  ·rintro⟨h1,h2⟩ j hj hn
   rcases Nat.lt_or_ge j (k+1+n) with q|q
   ·exact h1 j hj q
   ·obtain rfl:j=k+1+n:=by omega
    exact h2
  ·exact fun h=>⟨fun j hj hn=>h j hj (by omega),h _ (by omega) (by omega)⟩
def sVlt:List UInt8:=[118,97,117,108,116]
def rcM (s:Si)(kept:List Mv)(i k:Nat):WkR:=⟨sVlt,(k:Int)+1,dayM (kept.getD k default),5,(s.cans.getD i default).name,(s.rooms.getD (kept.getD k default).to.toNat default).name⟩
def rc0 (s:Si)(i:Nat):WkR:=⟨sVlt,1000+(i:Int),0,5,(s.cans.getD i default).name,(s.rooms.getD (s.cans.getD i default).room.toNat default).name⟩
def isL (kept:List Mv)(i k:Nat):Bool:=decide ((kept.getD k default).can=(i:Int)) && ZId kept i (dayM (kept.getD k default)) k (kept.length-(k+1))
def rcK (s:Si)(kept:List Mv)(i:Nat):Nat->List WkR
 | 0=>[]
 | k+1=>if isL kept i k=true then rcK s kept i k++[rcM s kept i k] else rcK s kept i k
def firK (kept:List Mv)(i:Nat):Nat->Bool
 | 0=>true
 | k+1=>if (kept.getD k default).can=(i:Int) then firK kept i k && decide (0<dayM (kept.getD k default)) else firK kept i k
def rcI (s:Si)(kept:List Mv):Nat->List WkR
 | 0=>[]
 | i+1=>if firK kept i kept.length=true then rcI s kept i++rcK s kept i kept.length++[rc0 s i] else rcI s kept i++rcK s kept i kept.length
section
variable {s:Si}{kept:List Mv}
theorem ZEd {i:Nat}:∀{k:Nat},firK kept i k=true ↔ ∀j,j<k->(kept.getD j default).can=(i:Int)->0<dayM (kept.getD j default)
 | 0=>⟨fun _ j hj=>absurd hj (Nat.not_lt_zero _),fun _=>rfl⟩
 | k+1=>by
  rw[firK]
  split
  ·rename_i hc
   rw[Bool.and_eq_true,ZEd,decide_eq_true_eq]
   constructor
   ·rintro⟨h1,h2⟩ j hj hjc
    rcases Nat.lt_succ_iff_lt_or_eq.1 hj with q|rfl
    ·exact h1 j q hjc
    ·exact h2
   ·exact fun h=>⟨fun j hj=>h j (by omega),h k (by omega) hc⟩
  ·rename_i hc
   rw[ZEd]
   constructor
   ·intro h1 j hj hjc
    rcases Nat.lt_succ_iff_lt_or_eq.1 hj with q|rfl
    ·exact h1 j q hjc
    ·exact absurd hjc hc
   ·exact fun h j hj=>h j (by omega)
theorem ZH0 {i:Nat}{x:WkR}:∀{k:Nat},x∈rcK s kept i k ↔ ∃j,j<k/\isL kept i j=true/\x=rcM s kept i j
 | 0=>⟨(fun h=>nomatch h),fun ⟨_,h,_⟩=>absurd h (Nat.not_lt_zero _)⟩
 | k+1=>by
  rw[rcK]
  split
  ·rename_i hc
   rw[List.mem_append,ZH0,List.mem_singleton]
   constructor
   ·rintro (⟨j,h1,h2⟩|rfl)
    ·exact⟨j,by omega,h2⟩
    ·exact⟨k,by omega,hc,rfl⟩
   ·rintro⟨j,h1,h2,rfl⟩
    rcases Nat.lt_succ_iff_lt_or_eq.1 h1 with q|rfl
    ·exact .inl ⟨j,q,h2,rfl⟩
    ·exact .inr rfl
  ·rename_i hc
   rw[ZH0]
   constructor
   ·rintro⟨j,h1,h2⟩
    exact⟨j,by omega,h2⟩
   ·rintro⟨j,h1,h2,rfl⟩
    rcases Nat.lt_succ_iff_lt_or_eq.1 h1 with q|rfl
    ·exact⟨j,q,h2,rfl⟩
    ·exact absurd h2 hc
def ZGO (s:Si)(kept:List Mv)(n:Nat)(x:WkR):Prop:=∃i,i<n/\((∃k,k<kept.length/\isL kept i k=true/\x=rcM s kept i k)\/(firK kept i kept.length=true/\x=rc0 s i))
theorem ZJc {x:WkR}:∀{n:Nat},x∈rcI s kept n ↔ ZGO s kept n x
 | 0=>⟨(fun h=>nomatch h),fun ⟨_,h,_⟩=>absurd h (Nat.not_lt_zero _)⟩
 | n+1=>by
  have ih:=ZJc (x:=x) (n:=n);rw[rcI]
  constructor
  ·intro h
   split at h
   ·rename_i hf
    rw[List.mem_append,List.mem_append,ih,ZH0,List.mem_singleton] at h
    rcases h with (⟨i,h1,h2⟩|h)|h
    ·exact⟨i,by omega,h2⟩
    ·exact⟨n,by omega,.inl h⟩
    ·exact⟨n,by omega,.inr ⟨hf,h⟩⟩
   ·rw[List.mem_append,ih,ZH0] at h
    rcases h with ⟨i,h1,h2⟩|h
    ·exact⟨i,by omega,h2⟩
    ·exact⟨n,by omega,.inl h⟩
  ·rintro⟨i,h1,h2⟩
   rcases Nat.lt_succ_iff_lt_or_eq.1 h1 with q|rfl
   ·have:x∈rcI s kept n:=ih.2 ⟨i,q,h2⟩
    split
    ·exact List.mem_append_left _ (List.mem_append_left _ this)
    ·exact List.mem_append_left _ this
   ·rcases h2 with h2|⟨h2,rfl⟩
    ·have:=ZH0.2 h2
     split
     ·exact List.mem_append_left _ (List.mem_append_right _ this)
     ·exact List.mem_append_right _ this
    ·rw[if_pos h2]
     exact List.mem_append_right _ (List.mem_singleton.2 rfl)
theorem ZJX {k:Nat}(h:k<kept.length):kept.getD k default=kept[k]:=by rw[List.getD_eq_getElem?_getD,List.getElem?_eq_getElem h];rfl
theorem ZQm {i:Nat}:∀{k:Nat},k<=kept.length->(rcK s kept i k).length<=(kept.take k).countP fun m=>decide (m.can=(i:Int))
 | 0,_=>Nat.zero_le _
 | k+1,h=>by
  have ih:=ZQm (i:=i) (k:=k) (by omega);rw[List.take_add_one,List.countP_append,List.getElem?_eq_getElem (show k<kept.length by omega),rcK]
  split
  ·rename_i hc
   unfold isL at hc;rw[Bool.and_eq_true,ZJX (by omega)] at hc;have:(Option.toList (some kept[k])).countP (fun m=>decide (m.can=(i:Int)))=1:=by
    show [kept[k]].countP _=1
    rw[List.countP_singleton,if_pos hc.1]
   rw[List.length_append,this];exact Nat.add_le_add_right ih 1
  ·exact Nat.le_trans ih (Nat.le_add_right _ _)
theorem ZPE:∀{n:Nat},(rcI s kept n).length<=n+kept.countP fun m=>decide (0<=m.can/\m.can<(n:Int))
 | 0=>Nat.zero_le _
 | n+1=>by
  have ih:=ZPE (n:=n);have h2:=ZQm (s:=s) (kept:=kept) (i:=n) (Nat.le_refl _);rw[List.take_length] at h2;have h3:∀l:List Mv,(l.countP fun m=>decide (0<=m.can/\m.can<(n:Int)))+(l.countP fun m=>decide (m.can=(n:Int)))<=l.countP fun m=>decide (0<=m.can/\m.can<((n+1:Nat):Int)):=by
   intro l
   induction l with
   | nil=>exact Nat.le_refl _
   | cons m l ih =>
    simp only[List.countP_cons,decide_eq_true_eq]
    split <;> split <;> split <;> omega
  have h4:=h3 kept;rw[rcI]
  split <;> simp only[List.length_append,List.length_cons,List.length_nil] <;> omega
theorem ZKP (n:Nat):(rcI s kept n).length<=n+kept.length:=Nat.le_trans ZPE (Nat.add_le_add_left List.countP_le_length _)
theorem ZRe (i k:Nat):(rcK s kept i k).length<=k:=by
 induction k with
 | zero=>exact Nat.le_refl _
 | succ k ih =>
  rw[rcK]
  split
  ·rw[List.length_append];exact Nat.add_le_add_right ih 1
  ·omega
end
structure Ktp (s:Si)(kept:List Mv):Prop where
 cn:∀i j,i<s.cans.length->j<s.cans.length->(s.cans.getD i default).name=(s.cans.getD j default).name->i=j
 rn:∀i j,i<s.rooms.length->j<s.rooms.length->(s.rooms.getD i default).name=(s.rooms.getD j default).name->i=j
 room:∀i,i<s.cans.length->0<=(s.cans.getD i default).room/\(s.cans.getD i default).room<s.rooms.length
 len:s.cans.length<=30
 klen:kept.length<=60
 hour:∀k,k<kept.length->0<=(kept.getD k default).hour/\(kept.getD k default).hour<=2400
 can:∀k,k<kept.length->0<=(kept.getD k default).can/\(kept.getD k default).can<s.cans.length
 to:∀k,k<kept.length->0<=(kept.getD k default).to/\(kept.getD k default).to<s.rooms.length
 up:∀j k,j<=k->k<kept.length->(kept.getD j default).hour<=(kept.getD k default).hour
theorem ZDl {kept:List Mv}{i k:Nat}(hk:k<kept.length):isL kept i k=true ↔ (kept.getD k default).can=(i:Int)/\∀j,k<j->j<kept.length->(kept.getD j default).can≠(i:Int)\/dayM (kept.getD j default)≠dayM (kept.getD k default):=by
 unfold isL;rw[Bool.and_eq_true,decide_eq_true_eq,ZKo];have e:k+1+(kept.length-(k+1))=kept.length:=by omega
 rw[e]
theorem ZUM (cans:List Cn)(h:Int)(i:Nat)(hi:i<cans.length)(kept:List Mv):(∀m∈kept,0<=m.can) →
  (∃k,k<kept.length/\(kept.getD k default).can=(i:Int)/\(kept.getD k default).hour<=h/\(∀j,k<j->j<kept.length->(kept.getD j default).can≠(i:Int)\/h<(kept.getD j default).hour)/\(whrS cans kept h).getD i 0=(kept.getD k default).to)\/((∀j,j<kept.length->(kept.getD j default).can≠(i:Int)\/h<(kept.getD j default).hour)/\(whrS cans kept h).getD i 0=(cans.getD i default).room):=by
 induction kept using ZEf with
 | h0 =>
  intro _;refine .inr ⟨fun j hj=>absurd hj (Nat.not_lt_zero _),?_⟩
  show (cans.map Cn.room).getD i 0=_
  rw[List.getD_eq_getElem?_getD,List.getElem?_map,List.getElem?_eq_getElem hi,List.getD_eq_getElem?_getD,List.getElem?_eq_getElem hi]
  rfl
 | h1 l m ih =>
  intro hc;have ih:=ih fun x hx=>hc x (List.mem_append_left _ hx);have h0:=hc m (List.mem_append_right _ (List.mem_singleton.2 rfl));have hwl:=ZFj cans l h;rw[ZLd];have em:(l++[m]).getD l.length default=m:=by rw[List.getD_eq_getElem?_getD,List.getElem?_concat_length];rfl
  have el:∀j,j<l.length->(l++[m]).getD j default=l.getD j default:=fun j hj=>by rw[List.getD_eq_getElem?_getD,List.getElem?_append_left hj,<-List.getD_eq_getElem?_getD]
  have ln:(l++[m]).length=l.length+1:=by rw[List.length_append];rfl
  rw[ln];generalize whrS cans l h=w at *
  by_cases q:m.can=(i:Int)/\m.hour<=h
  ·refine .inl ⟨l.length,by omega,by rw[em];exact q.1,by rw[em];exact q.2,fun j h1 h2=>absurd h1 (by omega),?_⟩
   rw[em];unfold ZCw;have e1:m.can.toNat=i:=by omega
   rw[if_pos q.2,e1,List.getD_eq_getElem?_getD,List.getElem?_set_self (by omega)]
   rfl
  ·have hw:(ZCw h w m).getD i 0=w.getD i 0:=by
    unfold ZCw
    split
    ·rename_i hh
     have:m.can.toNat≠i:=fun e=>q ⟨by omega,hh⟩;rw[List.getD_eq_getElem?_getD,List.getElem?_set_ne this,<-List.getD_eq_getElem?_getD]
    ·rfl
   have q':m.can≠(i:Int)\/h<m.hour:=by
    by_cases z:m.can=(i:Int)
    ·exact .inr (by have:=fun y=>q ⟨z,y⟩;omega)
    ·exact .inl z
   rw[hw]
   rcases ih with ⟨k,h1,h2,h3,h4,h5⟩|⟨h1,h2⟩
   ·refine .inl ⟨k,by omega,by rw[el k h1];exact h2,by rw[el k h1];exact h3,fun j hj hn=>?_,by rw[el k h1];exact h5⟩
    rcases Nat.lt_succ_iff_lt_or_eq.1 hn with g|rfl
    ·rw[el j g];exact h4 j hj g
    ·rw[em];exact q'
   ·refine .inr ⟨fun j hn=>?_,h2⟩
    rcases Nat.lt_succ_iff_lt_or_eq.1 hn with g|rfl
    ·rw[el j g];exact h1 j g
    ·rw[em];exact q'
section
variable {s:Si}{kept:List Mv}(K:Ktp s kept)
include K
theorem Ktp.dayN {k:Nat}(hk:k<kept.length):dayM (kept.getD k default)=(kept.getD k default).hour / 24:=ZUE (K.hour k hk).1
theorem Ktp.key {x y:WkR}(hx:ZGO s kept s.cans.length x)(hy:ZGO s kept s.cans.length y)(e:x.key=y.key):x=y:=by
 have e2:x.number=y.number:=congrArg Prod.snd e;have hl:=K.klen;obtain⟨i,hi,⟨k,hk,hL,rfl⟩|⟨hf,rfl⟩⟩:=hx <;> obtain⟨j,hj,⟨k',hk',hL',rfl⟩|⟨hf',rfl⟩⟩:=hy
 ·replace e2:(k:Int)+1=(k':Int)+1:=e2
  obtain rfl:k=k':=by omega
  have h1:=((ZDl hk).1 hL).1;have h2:=((ZDl hk).1 hL').1;obtain rfl:i=j:=by omega
  rfl
 ·replace e2:(k:Int)+1=1000+(j:Int):=e2
  omega
 ·replace e2:1000+(i:Int)=(k':Int)+1:=e2
  omega
 ·replace e2:1000+(i:Int)=1000+(j:Int):=e2
  obtain rfl:i=j:=by omega
  rfl
theorem rcA {i:Nat}{x:WkR}(hx:ZGO s kept s.cans.length x)(hi:i<s.cans.length)(e:x.a=(s.cans.getD i default).name):(∃k,k<kept.length/\isL kept i k=true/\x=rcM s kept i k)\/(firK kept i kept.length=true/\x=rc0 s i):=by
 obtain⟨j,hj,h⟩:=hx
 have:x.a=(s.cans.getD j default).name:=by rcases h with ⟨k,-,-,rfl⟩|⟨-,rfl⟩ <;> rfl
 obtain rfl:=K.cn i j hi hj (e.symm.trans this);exact h
theorem Ktp.one {x y:WkR}(hx:ZGO s kept s.cans.length x)(hy:ZGO s kept s.cans.length y)(ea:x.a=y.a)(ed:x.day=y.day):x=y:=by
 obtain⟨i,hi,h⟩:=hx
 have hxa:x.a=(s.cans.getD i default).name:=by rcases h with ⟨k,-,-,rfl⟩|⟨-,rfl⟩ <;> rfl
 have h':=rcA K hy hi (ea.symm.trans hxa)
 rcases h with ⟨k,hk,hL,rfl⟩|⟨hf,rfl⟩ <;> rcases h' with ⟨k',hk',hL',rfl⟩|⟨hf',rfl⟩
 ·replace ed:dayM (kept.getD k default)=dayM (kept.getD k' default):=ed
  obtain⟨h1,h2⟩:=(ZDl hk).1 hL;obtain⟨h3,h4⟩:=(ZDl hk').1 hL'
  rcases Nat.lt_trichotomy k k' with q|rfl|q
  ·rcases h2 k' q hk' with z|z
   ·exact absurd h3 z
   ·exact absurd ed.symm z
  ·rfl
  ·rcases h4 k q hk with z|z
   ·exact absurd h1 z
   ·exact absurd ed z
 ·replace ed:dayM (kept.getD k default)=0:=ed
  have:=ZEd.1 hf' k hk ((ZDl hk).1 hL).1;omega
 ·replace ed:0=dayM (kept.getD k' default):=ed
  have:=ZEd.1 hf k' hk' ((ZDl hk').1 hL').1;omega
 ·rfl
theorem Ktp.place {i:Nat}(hi:i<s.cans.length){d:Int}(hd:0<=d):∃z,ZGO s kept s.cans.length z/\z.a=(s.cans.getD i default).name/\z.day<=d/\z.b=(s.rooms.getD ((whrS s.cans kept (24*d+23)).getD i 0).toNat default).name/\∀x,ZGO s kept s.cans.length x->x.a=(s.cans.getD i default).name->x.day<=d->x.day<z.day\/x=z:=by
 rcases ZUM s.cans (24*d+23) i hi kept (fun m hm=>by
   obtain⟨k,hk,rfl⟩:=List.getElem_of_mem hm;have:=K.can k hk;rw[ZJX hk] at this
   exact this.1) with ⟨k,hk,hc,hh,hl,hw⟩|⟨hn,hw⟩
 ·have hdk:=K.dayN hk
  have hL:isL kept i k=true:=(ZDl hk).2 ⟨hc,fun j h1 h2=>by
   rcases hl j h1 h2 with q|q
   ·exact .inl q
   ·refine .inr ?_
    rw[K.dayN h2,hdk];omega⟩
  refine⟨rcM s kept i k,⟨i,hi,.inl ⟨k,hk,hL,rfl⟩⟩,rfl,(by show dayM _<=d;omega),(by rw[hw];rfl),fun x hx hxa hxd=>?_⟩
  rcases rcA K hx hi hxa with ⟨k',hk',hL',rfl⟩|⟨hf,rfl⟩
  ·replace hxd:dayM (kept.getD k' default)<=d:=hxd
   have hdk':=K.dayN hk';obtain⟨h3,h4⟩:=(ZDl hk').1 hL'
   rcases Nat.lt_trichotomy k k' with q|rfl|q
   ·rcases hl k' q hk' with z|z
    ·exact absurd h3 z
    ·exfalso;omega
   ·exact .inr rfl
   ·left
    show dayM _<dayM _
    have hu:=K.up k' k (by omega) hk
    rcases h4 k q hk with z|z
    ·exact absurd hc z
    ·omega
  ·left
   exact ZEd.1 hf k hk hc
 ·have hf:firK kept i kept.length=true:=ZEd.2 fun j hj hc=>by
   rcases hn j hj with q|q
   ·exact absurd hc q
   ·rw[K.dayN hj];omega
  refine⟨rc0 s i,⟨i,hi,.inr ⟨hf,rfl⟩⟩,rfl,hd,(by rw[hw];rfl),fun x hx hxa hxd=>?_⟩
  rcases rcA K hx hi hxa with ⟨k',hk',hL',rfl⟩|⟨-,rfl⟩
  ·replace hxd:dayM (kept.getD k' default)<=d:=hxd
   have hdk':=K.dayN hk'
   rcases hn k' hk' with z|z
   ·exact absurd ((ZDl hk').1 hL').1 z
   ·exfalso;omega
  ·exact .inr rfl
end
theorem ZTd {α:Type}{f:List α}{x:α}(hn:f.Nodup)(hx:x∈f)(h:∀y∈f,y=x):f.length=1:=by
 rcases f with _|⟨a,_|⟨b,r⟩⟩
 ·cases hx
 ·rfl
 ·have h1:=h a List.mem_cons_self
  have h2:=h b (List.mem_cons_of_mem _ List.mem_cons_self);rw[List.nodup_cons] at hn;exact absurd (by rw[h1,h2];exact List.mem_cons_self) hn.1
theorem ZQ1 {l:List WkR}(h5:∀x∈l,x.kind=5)(hk:∀x∈l,∀y∈l,x.key=y.key->x=y)(hn:l.Nodup):ZAk l=l:=by
 have hd:ZHp l l=[]:=by
  unfold ZHp;rw[List.map_eq_nil_iff,List.filter_eq_nil_iff];intro y hy q;have h1:=(of_decide_eq_true q).1;have h2:=h5 y hy;omega
 unfold ZAk;rw[List.filter_eq_self];intro x hx;unfold ZEI;rw[decide_eq_true_eq,hd];refine⟨by rw[h5 x hx];decide,?_,List.not_mem_nil⟩;unfold cntK;refine ZTd (x:=x) (hn.filter _) (List.mem_filter.2 ⟨hx,decide_eq_true rfl⟩) fun y hy=>?_;obtain⟨h1,h2⟩:=List.mem_filter.1 hy;exact hk y h1 x hx (of_decide_eq_true h2)
theorem ZRc {l:List WkR}(hp:l.Pairwise fun x y=>x.day<=y.day){z:WkR}(hz:z∈l)(hu:∀x∈l,x.day<z.day\/x=z):ZK0 l=z.b:=by
 rcases List.eq_nil_or_concat l with rfl|⟨r,y,rfl⟩
 ·cases hz
 rw[List.concat_eq_append] at *;have hy:y=z:=by
  rcases hu y (List.mem_append_right _ (List.mem_singleton.2 rfl)) with q|q
  ·rcases List.mem_append.1 hz with g|g
   ·have:=(List.pairwise_append.1 hp).2.2 z g y (List.mem_singleton.2 rfl)
    omega
   ·exact (List.mem_singleton.1 g).symm
  ·exact q
 subst hy;unfold ZK0;rw[List.getLast?_append,List.getLast?_singleton]
 show ((List.find? (fun x=>decide (x.day=y.day)) (r++[y])).map WkR.b).getD []=_
 cases hf:List.find? (fun x=>decide (x.day=y.day)) (r++[y]) with
 | none=>exact absurd (decide_eq_true rfl) (List.find?_eq_none.1 hf y hz)
 | some x =>
  have h1:=List.mem_of_find?_eq_some hf;have h3:decide (x.day=y.day)=true:=List.find?_some (p:=fun x:WkR=>decide (x.day=y.day)) hf;have h2:=of_decide_eq_true h3
  rcases hu x h1 with q|rfl
  ·omega
  ·rfl
theorem ZSH {l:List Str}(h:l.Nodup):(mrgU ltB l).length=l.length:=Nat.le_antisymm (ZFU ZAR l) (ZBH h fun _ hx=>(ZBS ZAR).2 hx)
def rcS (s:Si)(kept:List Mv):List WkR:=mrgU ltW (rcI s kept s.cans.length)
theorem ZGb {s:Si}{kept:List Mv}{x:WkR}:x∈rcS s kept ↔ ZGO s kept s.cans.length x:=by
 unfold rcS;rw[ZBS ZA0,ZJc]
theorem ZMo {s:Si}{kept:List Mv}{n:Nat}{x:WkR}(h:ZGO s kept n x):x.kind=5:=by
 obtain⟨i,-,⟨k,-,-,rfl⟩|⟨-,rfl⟩⟩:=h <;> rfl
def cE (w:List Int)(n r:Nat):Nat:=(List.range n).countP fun i=>decide (w.getD i 0=(r:Int))
def cW (w:List Int)(n k:Nat):Nat:=(List.range n).countP fun i=>decide (w.getD i 0<(k:Int))
theorem ZTt (w:List Int)(n k:Nat):cW w n (k+1)=cW w n k+cE w n k:=by
 unfold cW cE;generalize List.range n=l
 induction l with
 | nil=>rfl
 | cons i l ih =>
  simp only[List.countP_cons,decide_eq_true_eq];rw[ih]
  split <;> split <;> split <;> omega
theorem ZTs {w:List Int}{n m:Nat}(h:InR m w):cW w n 0=0:=by
 unfold cW;rw[List.countP_eq_zero];intro i _ q;have q:=of_decide_eq_true q;rw[List.getD_eq_getElem?_getD] at q
 cases e:w[i]? with
 | none=>rw[e] at q;exact absurd q (by decide)
 | some r =>
  rw[e] at q;have:=(h r (List.mem_of_getElem? e)).1
  change r<0 at q
  omega
theorem ZU2 {w:List Int}{m:Nat}(h:InR m w):cW w w.length m=w.length:=by
 unfold cW;have:(List.range w.length).countP (fun i=>decide (w.getD i 0<(m:Int)))=(List.range w.length).length:=by
  rw[List.countP_eq_length];intro i hi;rw[List.mem_range] at hi;rw[decide_eq_true_eq,List.getD_eq_getElem?_getD,List.getElem?_eq_getElem hi];exact (h _ (List.getElem_mem _)).2
 rw[this,List.length_range]
section
variable {s:Si}{kept:List Mv}(K:Ktp s kept)
include K
theorem Ktp.stand:ZAk (rcS s kept)=rcS s kept :=
 ZQ1 (fun _ hx=>ZMo (ZGb.1 hx)) (fun _ hx _ hy e=>K.key (ZGb.1 hx) (ZGb.1 hy) e) (ZHD (ZEF ZA0 _))
omit K in
theorem ZO7 {d:Int}{k:Str}{x:WkR}:x∈plcW (rcS s kept) d k ↔ ZGO s kept s.cans.length x/\x.a=k/\x.day<=d:=by
 unfold plcW plcB;rw[List.mem_filter,ZDL,ZGb,decide_eq_true_eq]
 constructor
 ·rintro⟨⟨h1,-⟩,-,h2⟩
  exact⟨h1,h2⟩
 ·rintro⟨h1,h2⟩
  have:=ZMo h1;exact⟨⟨h1,by rw[this];decide⟩,this,h2⟩
theorem Ktp.noTw (k:Str):∀x∈ZBn (rcS s kept) 80000 k,∀y∈ZBn (rcS s kept) 80000 k,x.day=y.day->x.b=y.b:=by
 intro x hx y hy e;unfold ZBn at hx hy;rw[ZBS ZB1,ZO7] at hx hy;rw[K.one hx.1 hy.1 (hx.2.1.trans hy.2.1.symm) e]
theorem Ktp.where' {i:Nat}(hi:i<s.cans.length){d:Int}(hd:0<=d):ZC0 (rcS s kept) d (s.cans.getD i default).name=(s.rooms.getD ((whrS s.cans kept (24*d+23)).getD i 0).toNat default).name:=by
 obtain⟨z,h1,h2,h3,h4,h5⟩:=K.place hi hd;rw[<-h4];unfold ZC0
 have hm:∀x,x∈ZBn (rcS s kept) d (s.cans.getD i default).name ↔ ZGO s kept s.cans.length x/\x.a=(s.cans.getD i default).name/\x.day<=d:=fun x=>by
  unfold ZBn;rw[ZBS ZB1,ZO7]
 refine ZRc ZTD ((hm z).2 ⟨h1,h2,h3⟩) fun x hx=>?_;obtain⟨g1,g2,g3⟩:=(hm x).1 hx;exact h5 x g1 g2 g3
theorem Ktp.items {k:Str}:k∈itmW (rcS s kept) ↔ ∃i,i<s.cans.length/\k=(s.cans.getD i default).name:=by
 unfold itmW;rw[List.mem_map]
 constructor
 ·rintro⟨x,hx,rfl⟩
  rw[ZDL,ZGb] at hx;obtain⟨⟨i,hi,⟨j,-,-,rfl⟩|⟨-,rfl⟩⟩,-⟩:=hx
  ·exact⟨i,hi,rfl⟩
  ·exact⟨i,hi,rfl⟩
 ·rintro⟨i,hi,rfl⟩
  obtain⟨z,h1,h2,-⟩:=K.place hi (d:=0) (Int.le_refl _);refine⟨z,?_,h2⟩;rw[ZDL,ZGb];exact⟨h1,by rw[ZMo h1];decide⟩
theorem Ktp.stock {r:Nat}(hr:r<s.rooms.length){d:Int}(hd:0<=d):(mrgU ltB ((itmW (rcS s kept)).filter fun k=>decide (ZC0 (rcS s kept) d k=(s.rooms.getD r default).name))).length=cE (whrS s.cans kept (24*d+23)) s.cans.length r:=by
 have hin:InR s.rooms.length (whrS s.cans kept (24*d+23)):=ZMB (fun c hc=>by
   obtain⟨k,hk,rfl⟩:=List.getElem_of_mem hc;have:=K.room k hk;rw[List.getD_eq_getElem?_getD,List.getElem?_eq_getElem hk] at this;exact this) fun m hm=>by
   obtain⟨k,hk,rfl⟩:=List.getElem_of_mem hm;have:=K.to k hk;rw[ZJX hk] at this;exact this
 have hwl:=ZFj s.cans kept (24*d+23);have hw:=fun {i:Nat} (hi:i<s.cans.length)=>K.where' hi hd;generalize whrS s.cans kept (24*d+23)=w at *;have e:mrgU ltB ((itmW (rcS s kept)).filter fun k=>decide (ZC0 (rcS s kept) d k=(s.rooms.getD r default).name))=mrgU ltB (((List.range s.cans.length).filter fun i=>decide (w.getD i 0=(r:Int))).map fun i=>(s.cans.getD i default).name):=by
  refine ZRE ZAR fun k=>?_;rw[List.mem_filter,K.items,List.mem_map]
  constructor
  ·rintro⟨⟨i,hi,rfl⟩,q⟩
   refine⟨i,List.mem_filter.2 ⟨List.mem_range.2 hi,decide_eq_true ?_⟩,rfl⟩;have q:=of_decide_eq_true q;rw[hw hi] at q;have hm:w.getD i 0∈w:=by rw[List.getD_eq_getElem?_getD,List.getElem?_eq_getElem (by omega)];exact List.getElem_mem _
   have h2:=hin _ hm;have:=K.rn _ _ (by omega) hr q;omega
  ·rintro⟨i,hi,rfl⟩
   obtain⟨h1,h2⟩:=List.mem_filter.1 hi;rw[List.mem_range] at h1;have h2:=of_decide_eq_true h2;refine⟨⟨i,h1,rfl⟩,decide_eq_true ?_⟩;rw[hw h1,h2]
   rfl
 rw[e,ZSH]
 ·rw[List.length_map]
  unfold cE;rw[List.countP_eq_length_filter]
 ·rw[List.Nodup,List.pairwise_map]
  refine (List.Pairwise.filter _ List.nodup_range).imp_of_mem fun {i j} hi hj hne e=>hne ?_;exact K.cn i j (List.mem_range.1 (List.mem_filter.1 hi).1) (List.mem_range.1 (List.mem_filter.1 hj).1) e
end
end Go.Dw
