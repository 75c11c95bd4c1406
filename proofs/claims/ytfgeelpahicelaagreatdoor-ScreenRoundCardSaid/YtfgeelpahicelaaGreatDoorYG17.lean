/- SW: what is read from a file of subtitles, with no program in sight: the program's way and the document's come to the same. -/
import Derived.Test.YtfgeelpahicelaaGreatDoorYG16
import Derived.Test.YtfgeelpahicelaaGreatDoorYG5
set_option linter.unusedVariables false
set_option linter.unusedSimpArgs false
namespace Go.Dw
open Go Go.Dx Go.Proofs
abbrev Byt:=List UInt8
def cutB (c:UInt8):Byt->Option (Byt×Byt)
 | []=>none
 | x::l=>if x=c then some ([],l) else (cutB c l).map fun p=>(x::p.1,p.2)
theorem ZE9 (c:UInt8):∀l:Byt,(Lib.indexByte l c = -1/\cutB c l=none/\c ∉ l)\/∃k:Nat,Lib.indexByte l c=k/\k<l.length/\cutB c l=some (l.take k,l.drop (k+1))/\c ∉ l.take k/\l=l.take k++c::l.drop (k+1)
 | []=>.inl ⟨rfl,rfl,List.not_mem_nil⟩
 | x::l=>by
  unfold Lib.indexByte cutB
  by_cases h:x=c
  ·right
   subst h;exact⟨0,by simp,by simp,by simp,by simp,by simp⟩
  ·have hb:(x == c)=false:=by simpa using h
   rw[hb,if_neg h];simp only[Bool.false_eq_true,if_false]
   rcases ZE9 c l with ⟨e1,e2,e3⟩|⟨k,e1,e2,e3,e4,e5⟩
   ·left
    rw[e1,e2];exact⟨rfl,rfl,by simp[e3,Ne.symm h]⟩
   ·right
    refine⟨k+1,?_,by simp;omega,by rw[e3];rfl,?_,?_⟩
    ·rw[e1]
     have:((k:Int) == -1)=false:=by simp
     rw[this];simp
    ·rw[List.take_succ_cons]
     simp[e4,Ne.symm h]
    ·rw[List.take_succ_cons,List.drop_succ_cons,List.cons_append,<-e5]
theorem ZI1 {c:UInt8}:∀{w:Byt}(r:Byt),c ∉ w->cutB c (w++c::r)=some (w,r)
 | [],r,_=>by simp[cutB]
 | x::w,r,h=>by
  have h1:¬x=c:=fun e=>h (by rw[e];exact List.mem_cons_self);rw[List.cons_append,cutB,if_neg h1,ZI1 r (fun hm=>h (List.mem_cons_of_mem _ hm))]
  rfl
def numS (l:Byt):Option (Int×Byt):=match cutB 32 l with
 | some (w,r)=>match Lib.atoiAll w with
  | .ok n=>some (n,r)
  | _=>none
 | none=>none
def ZD9 (l:Byt):Byt:=if l.getLast?=some 10 then l.dropLast else l
def ZBP (l:Byt):Option Ttl:=(numS l).bind fun p=>(numS p.2).bind fun q=>(numS q.2).map fun r=>⟨q.1,r.1,ZD9 r.2⟩
def ZAf:Byt->List Byt
 | []=>[]
 | x::l=>if x=10 then [10]::ZAf l else match ZAf l with
  | []=>[[x]]
  | y::ys=>(x::y)::ys
theorem ZD7:∀{w:Byt}(r:Byt),(10:UInt8) ∉ w->ZAf (w++10::r)=(w++[10])::ZAf r
 | [],r,_=>by simp[ZAf]
 | x::w,r,h=>by
  have h1:¬x=10:=fun e=>h (by rw[e];exact List.mem_cons_self);rw[List.cons_append,ZAf,if_neg h1,ZD7 r (fun hm=>h (List.mem_cons_of_mem _ hm))]
  rfl
theorem ZF2:∀{w:Byt},(10:UInt8) ∉ w->w≠[]->ZAf w=[w]
 | [],_,h=>absurd rfl h
 | [x],h,_=>by
  have h1:¬x=10:=fun e=>h (by rw[e];exact List.mem_cons_self);rw[ZAf,if_neg h1];rfl
 | x::y::w,h,_=>by
  have h1:¬x=10:=fun e=>h (by rw[e];exact List.mem_cons_self);rw[ZAf,if_neg h1,ZF2 (fun hm=>h (List.mem_cons_of_mem _ hm)) (by simp)]
def ZA9 (L:List Byt):Option (List Ttl):=L.mapM ZBP
theorem ZJx:ZA9 []=some []:=rfl
theorem ZBD (x:Byt)(L:List Byt):ZA9 (x::L)=(ZBP x).bind fun t=>(ZA9 L).map fun ts=>t::ts:=by
 unfold ZA9;rw[List.mapM_cons]
 cases ZBP x with
 | none=>rfl
 | some t=>cases hq:List.mapM ZBP L <;> simp[hq]
theorem ZDG (x:Byt):∀L:List Byt,ZA9 (L++[x])=(ZA9 L).bind fun ts=>(ZBP x).map fun t=>ts++[t]
 | []=>by
  rw[List.nil_append,ZBD,ZJx];cases ZBP x <;> rfl
 | y::L=>by
  rw[List.cons_append,ZBD,ZDG x L,ZBD]
  cases ZBP y with
  | none=>rfl
  | some t =>
   cases ZA9 L with
   | none=>rfl
   | some ts=>cases ZBP x <;> rfl
theorem ZHy {L M:List Byt}(h:ZA9 L=none):ZA9 (L++M)=none:=by
 induction L with
 | nil=>cases h
 | cons x L ih =>
  rw[List.cons_append,ZBD];rw[ZBD] at h
  cases hx:ZBP x with
  | none=>rfl
  | some t =>
   rw[hx] at h
   cases hL:ZA9 L with
   | none=>rw[ih hL];rfl
   | some ts=>rw[hL] at h;cases h
def ZAR (c:UInt8):Byt->List Byt
 | []=>[[]]
 | x::l=>if x=c then []::ZAR c l else match ZAR c l with
  | []=>[[x]]
  | y::ys=>(x::y)::ys
theorem ZCg (c:UInt8):∀l,ZAR c l≠[]
 | []=>by simp[ZAR]
 | x::l=>by
  rw[ZAR]
  split
  ·simp
  ·split <;> simp
theorem ZCB {c:UInt8}:∀{w:Byt}(r:Byt),c ∉ w->ZAR c (w++c::r)=w::ZAR c r
 | [],r,_=>by simp[ZAR]
 | x::w,r,h=>by
  have h1:¬x=c:=fun e=>h (by rw[e];exact List.mem_cons_self);rw[List.cons_append,ZAR,if_neg h1,ZCB r (fun hm=>h (List.mem_cons_of_mem _ hm))]
def numD (l:Byt):Int:=if 1<=l.length/\l.length<=9/\l.all isD=true then (valG 0 l:Nat) else -1
def aftB:Nat->Byt->Byt
 | _,[]=>[]
 | n,x::l=>if x=32 then (if n=1 then l else aftB (n-1) l) else aftB n l
theorem ZEZ:∀{w:Byt}(n:Nat)(r:Byt),(32:UInt8) ∉ w->aftB n (w++32::r)=if n=1 then r else aftB (n-1) r
 | [],n,r,_=>by simp[aftB]
 | x::w,n,r,h=>by
  have h1:¬x=32:=fun e=>h (by rw[e];exact List.mem_cons_self);rw[List.cons_append,aftB,if_neg h1,ZEZ n r (fun hm=>h (List.mem_cons_of_mem _ hm))]
def refL (l:Byt):Option Ttl:=if (ZAR 32 l).length<4 then none else some ⟨numD ((ZAR 32 l)[1]?.getD []),numD ((ZAR 32 l)[2]?.getD []),aftB 3 l⟩
def refP (L:List Byt):Option (List Ttl):=L.mapM refL
theorem ZB5 (x:Byt)(L:List Byt):refP (x::L)=(refL x).bind fun t=>(refP L).map fun ts=>t::ts:=by
 unfold refP;rw[List.mapM_cons]
 cases refL x with
 | none=>rfl
 | some t=>cases hq:List.mapM refL L <;> simp[hq]
theorem ZFE (x:Byt):∀L:List Byt,refP (L++[x])=(refP L).bind fun ts=>(refL x).map fun t=>ts++[t]
 | []=>by
  rw[List.nil_append,ZB5];cases refL x <;> rfl
 | y::L=>by
  rw[List.cons_append,ZB5,ZFE x L,ZB5]
  cases refL y with
  | none=>rfl
  | some t =>
   cases refP L with
   | none=>rfl
   | some ts=>cases refL x <;> rfl
theorem ZK8 {L M:List Byt}(h:refP L=none):refP (L++M)=none:=by
 induction L with
 | nil=>cases h
 | cons x L ih =>
  rw[List.cons_append,ZB5];rw[ZB5] at h
  cases hx:refL x with
  | none=>rfl
  | some t =>
   rw[hx] at h
   cases hL:refP L with
   | none=>rw[ih hL];rfl
   | some ts=>rw[hL] at h;cases h
theorem ZLT {u:Nat}{c:UInt8}(hc:isD c=false):c ∉ Lib.decDigits u:=fun hm=>by
 have:=List.all_eq_true.1 (ZEu u).1 c hm;rw[hc] at this;cases this
theorem ZME {u:Nat}(h:u<1000000):Lib.atoiAll (Lib.decDigits u)=.ok (u:Int):=by
 obtain⟨p1,p2,p3,-,p5⟩:=ZEu u;have hl:=p5 6 (by decide) (by simpa using h);have hp:(10:Nat) ^ (Lib.decDigits u).length<=10 ^ 6:=Nat.pow_le_pow_right (by decide) hl;have hpar:=ZEI (Lib.decDigits u) 0 p1 (by simp at hp ⊢;omega);rw[p2] at hpar
 cases hq:Lib.decDigits u with
 | nil=>exact absurd hq p3
 | cons c r =>
  rw[hq] at hpar p1;simp only[List.all_cons,Bool.and_eq_true] at p1;have hcd:=of_decide_eq_true p1.1;unfold Lib.atoiAll;simp only;rw[if_neg (show ¬(c.toNat=43\/c.toNat=45) by omega)];unfold Lib.parseMag;rw[if_neg (by simp),hpar];simp only;rw[if_neg (by omega),if_neg (by omega),if_neg (by omega)]
theorem ZI6 {u:Nat}(h:u<1000000):numD (Lib.decDigits u)=u:=by
 obtain⟨p1,p2,p3,-,p5⟩:=ZEu u;have hl:=p5 6 (by decide) (by simpa using h);unfold numD;rw[if_pos ⟨List.length_pos_iff.2 p3,by omega,p1⟩,p2]
theorem ZIO {n:Int}(h:0<=n):Lib.itoa n=Lib.decDigits n.toNat:=by
 unfold Lib.itoa;rw[if_neg (by omega)]
theorem ZGn {u:Nat}(h:u<1000000)(r:Byt):numS (Lib.decDigits u++32::r)=some ((u:Int),r):=by
 unfold numS;rw[ZI1 r (ZLT (by decide))];simp only[ZME h]
theorem ZKb {s:Byt}(h:ZC2 s=true):(10:UInt8) ∉ s:=fun hm=>by
 unfold ZC2 at h;simp only[Bool.and_eq_true] at h;have:=List.all_eq_true.1 h.2 _ hm;exact absurd (of_decide_eq_true this).1 (by decide)
theorem ZHh {i:Nat}{x:Ttl}(ha:0<=x.a)(hb:0<=x.b):ZCT i x=(Lib.decDigits (i+1)++32::(Lib.decDigits x.a.toNat++32::(Lib.decDigits x.b.toNat++32::x.text)))++[10]:=by
 unfold ZCT;rw[ZIO (by omega),ZIO ha,ZIO hb,show ((i:Int)+1).toNat=i+1 by omega];simp only[List.append_assoc,List.cons_append,List.nil_append]
theorem ZKP {i:Nat}{x:Ttl}(ht:ZC2 x.text=true):(10:UInt8) ∉ (Lib.decDigits (i+1)++32::(Lib.decDigits x.a.toNat++32::(Lib.decDigits x.b.toNat++32::x.text))):=by
 have h1:∀u,(10:UInt8) ∉ Lib.decDigits u:=fun u=>ZLT (by decide);simp only[List.mem_append,List.mem_cons,not_or];exact⟨h1 _,by decide,h1 _,by decide,h1 _,by decide,ZKb ht⟩
theorem ZJR {i:Nat}{x:Ttl}(hi:i<1000)(ha:0<=x.a/\x.a<=199999)(hb:0<=x.b/\x.b<=199999):ZBP (ZCT i x)=some x:=by
 rw[ZHh ha.1 hb.1];unfold ZBP;simp only[List.append_assoc,List.cons_append];rw[ZGn (by omega)];simp only[Option.bind_some];rw[ZGn (by omega)];simp only[Option.bind_some];rw[ZGn (by omega)];simp only[Option.map_some];unfold ZD9;rw[if_pos (by simp),List.dropLast_concat,Int.toNat_of_nonneg ha.1,Int.toNat_of_nonneg hb.1]
theorem ZMV {i:Nat}{x:Ttl}(ha:0<=x.a/\x.a<=199999)(hb:0<=x.b/\x.b<=199999):refL (Lib.decDigits (i+1)++32::(Lib.decDigits x.a.toNat++32::(Lib.decDigits x.b.toNat++32::x.text)))=some x:=by
 have h1:∀u,(32:UInt8) ∉ Lib.decDigits u:=fun u=>ZLT (by decide);unfold refL;rw[ZCB _ (h1 _),ZCB _ (h1 _),ZCB _ (h1 _),ZEZ _ _ (h1 _)];simp only[show ¬(3=1) by decide,if_false];rw[ZEZ _ _ (h1 _)];simp only[show ¬(3-1=1) by decide,if_false];rw[ZEZ _ _ (h1 _),if_pos (show 3-1-1=1 from rfl)];have hn:=ZCg 32 x.text;have hl:1<=(ZAR 32 x.text).length:=List.length_pos_iff.2 hn;rw[if_neg (by simp only[List.length_cons];omega)];simp only[List.getElem?_cons_succ,List.getElem?_cons_zero,Option.getD_some];rw[ZI6 (by omega),ZI6 (by omega),Int.toNat_of_nonneg ha.1,Int.toNat_of_nonneg hb.1]
theorem ZEw:∀(l:List Ttl)(i:Nat),i+l.length<1000->(∀x∈l,(0<=x.a/\x.a<=199999)/\(0<=x.b/\x.b<=199999)/\ZC2 x.text=true)->ZA9 (ZAf (ZAV i l))=some l/\refP (ZAR 10 (ZAV i l)).dropLast=some l
 | [],i,_,_=>⟨rfl,rfl⟩
 | x::l,i,hi,h=>by
  obtain⟨ha,hb,ht⟩:=h x List.mem_cons_self;rw[List.length_cons] at hi;obtain⟨r1,r2⟩:=ZEw l (i+1) (by omega) fun y hy=>h y (List.mem_cons_of_mem _ hy);have hno:=ZKP (i:=i) (x:=x) ht;have hpl:=ZJR (i:=i) (by omega) ha hb;have hrl:=ZMV (i:=i) ha hb
  show ZA9 (ZAf (ZCT i x++ZAV (i+1) l))=_/\refP (ZAR 10 (ZCT i x++ZAV (i+1) l)).dropLast=_
  rw[ZHh ha.1 hb.1] at hpl ⊢;generalize Lib.decDigits (i+1)++32::(Lib.decDigits x.a.toNat++32::(Lib.decDigits x.b.toNat++32::x.text))=body at *;rw[List.append_assoc,List.singleton_append,ZD7 _ hno,ZCB _ hno,ZBD,hpl,r1];refine⟨rfl,?_⟩;rw[List.dropLast_cons_of_ne_nil (ZCg _ _),ZB5,hrl,r2];rfl
def ZBI (s:Byt):List Ttl×Int:=if 8000<s.length then ([],3) else match ZA9 (ZAf s) with
 | some l=>if ZAH l=0/\ZAV 0 l=s then (l,0) else ([],6)
 | none=>([],6)
theorem ZDr {l:List Ttl}(h:ZAH l=0):0+l.length<1000/\∀x∈l,(0<=x.a/\x.a<=199999)/\(0<=x.b/\x.b<=199999)/\ZC2 x.text=true:=by
 obtain⟨h1,h2,-⟩:=ZBk h
 exact⟨by omega,fun x hx=>by
  obtain⟨q1,q2,q3,q4⟩:=h2 x hx;exact⟨⟨q1,by omega⟩,⟨by omega,q3⟩,q4⟩⟩
theorem ZK7 (s:Byt)(h:¬8000<s.length):ZBI s=match refP (ZAR 10 s).dropLast with
  | some l=>if ZAH l=0/\ZAV 0 l=s then (l,0) else ([],6)
  | none=>([],6):=by
 unfold ZBI;rw[if_neg h]
 have key:∀l,ZAH l=0/\ZAV 0 l=s->ZA9 (ZAf s)=some l/\refP (ZAR 10 s).dropLast=some l:=fun l hl=>by
  obtain⟨q1,q2⟩:=ZDr hl.1;have:=ZEw l 0 q1 q2
  rwa [hl.2] at this
 by_cases hex:∃l,ZAH l=0/\ZAV 0 l=s
 ·obtain⟨l,hl⟩:=hex
  obtain⟨k1,k2⟩:=key l hl;rw[k1,k2]
 ·have hno:∀o:Option (List Ttl),(match o with|some l=>if ZAH l=0/\ZAV 0 l=s then (l,(0:Int)) else ([],6)|none=>([],6))=([],6):=fun o=>by
   cases o with
   | none=>rfl
   | some l=>exact if_neg fun hl=>hex ⟨l,hl⟩
  rw[hno,hno]
theorem ZGc {s:Byt}(h:(ZBI s).2=0):ZAH (ZBI s).1=0/\ZAV 0 (ZBI s).1=s/\s.length<=8000:=by
 unfold ZBI at h ⊢
 split at h
 ·exact absurd h (by decide)
 rename_i h8;rw[if_neg h8]
 split at h
 ·split at h
  ·rename_i hl
   rw[if_pos hl];exact⟨hl.1,hl.2,by omega⟩
  ·exact absurd h (by decide)
 ·exact absurd h (by decide)
theorem ZIo {s:Byt}(h:(ZBI s).2≠0):(ZBI s).1=[]:=by
 unfold ZBI at h ⊢
 split
 ·rfl
 split
 ·split
  ·rename_i h8 _ _ he hl
   rw[if_neg h8,he] at h;simp only[if_pos hl] at h;exact absurd rfl h
  ·rfl
 ·rfl
theorem ZJo {l:List Ttl}(h:ZAH l=0):(ZAV 0 l).length<=8000/\ZBI (ZAV 0 l)=(l,0):=by
 obtain⟨q1,q2⟩:=ZDr h;have h40:=(ZBk h).1
 have hlen:=ZCt l 0 (by omega) fun x hx=>by
  obtain⟨⟨a1,a2⟩,⟨b1,b2⟩,t⟩:=q2 x hx;exact⟨⟨by omega,by omega⟩,⟨by omega,by omega⟩,(ZCw t).2⟩
 have h8:(ZAV 0 l).length<=8000:=by omega
 refine⟨h8,?_⟩;unfold ZBI;rw[if_neg (by omega),(ZEw l 0 q1 q2).1];exact if_pos ⟨h,rfl⟩
end Go.Dw
