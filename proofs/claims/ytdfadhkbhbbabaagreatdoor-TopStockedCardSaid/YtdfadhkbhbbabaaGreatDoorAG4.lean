/- WA: chapter 12 with no program in sight: strict orders; lists in order, each thing once; strings, records and keys in their order. -/
import Derived.RowKit
import Derived.Lib.AtoiAll
import Derived.Lib.ItoaNum
set_option linter.unusedVariables false
set_option linter.unusedSimpArgs false
namespace Go.Dw
structure ZBY {α:Type}(lt:α->α->Prop):Prop where
 irr:∀a,¬lt a a
 tr:∀{a b c},lt a b->lt b c->lt a c
 tri:∀a b,lt a b\/a=b\/lt b a
section
variable {α:Type}{lt:α->α->Prop}
theorem ZQd:ZBY lt->∀{E F:List α},E.Pairwise lt->F.Pairwise lt->(∀e,e∈E ↔ e∈F)->E=F
 | _,[],[],_,_,_=>rfl
 | _,[],b::F,_,_,h=>absurd ((h b).2 List.mem_cons_self) List.not_mem_nil
 | _,a::E,[],_,_,h=>absurd ((h a).1 List.mem_cons_self) List.not_mem_nil
 | hS,a::E,b::F,h1,h2,h=>by
  rw[List.pairwise_cons] at h1 h2;have e:a=b:=by
   have q1:=(h a).1 List.mem_cons_self;have q2:=(h b).2 List.mem_cons_self
   rcases List.mem_cons.1 q1 with g|g
   ·exact g
   ·rcases List.mem_cons.1 q2 with g2|g2
    ·exact g2.symm
    ·exact absurd (hS.tr (h1.1 b g2) (h2.1 a g)) (hS.irr a)
  subst e
  congr 1
  refine ZQd hS h1.2 h2.2 fun e=>⟨fun he=>?_,fun he=>?_⟩
  ·rcases List.mem_cons.1 ((h e).1 (List.mem_cons_of_mem _ he)) with g|g
   ·exact absurd (g ▸ h1.1 e he) (hS.irr _)
   ·exact g
  ·rcases List.mem_cons.1 ((h e).2 (List.mem_cons_of_mem _ he)) with g|g
   ·exact absurd (g ▸ h2.1 e he) (hS.irr _)
   ·exact g
variable [DecidableEq α] [DecidableRel lt]
def insU (lt:α->α->Prop) [DecidableEq α] [DecidableRel lt](x:α):List α->List α
 | []=>[x]
 | y::l=>if lt y x then y::insU lt x l else if y=x then y::l else x::y::l
theorem ZKJ {x e:α}:∀{l:List α},e∈insU lt x l ↔ e=x\/e∈l
 | []=>by simp[insU]
 | y::l=>by
  rw[insU]
  split
  ·rw[List.mem_cons,ZKJ,List.mem_cons]
   constructor
   ·rintro (h|h|h)
    ·exact .inr (.inl h)
    ·exact .inl h
    ·exact .inr (.inr h)
   ·rintro (h|h|h)
    ·exact .inr (.inl h)
    ·exact .inl h
    ·exact .inr (.inr h)
  ·split
   ·rename_i h1 h2
    subst h2;rw[List.mem_cons]
    constructor
    ·exact fun h=>.inr h
    ·rintro (h|h)
     ·exact .inl h
     ·exact h
   ·rw[List.mem_cons]
theorem ZQA (hS:ZBY lt){x:α}:∀{l:List α},l.Pairwise lt->(insU lt x l).Pairwise lt
 | [],_=>by simp[insU]
 | y::l,h=>by
  rw[List.pairwise_cons] at h;rw[insU]
  split
  ·rename_i h1
   rw[List.pairwise_cons];refine⟨fun e he=>?_,ZQA hS h.2⟩
   rcases ZKJ.1 he with g|g
   ·rw[g];exact h1
   ·exact h.1 e g
  ·split
   ·exact List.pairwise_cons.2 h
   ·rename_i h1 h2
    have h3:lt x y:=by
     rcases hS.tri x y with g|g|g
     ·exact g
     ·exact absurd g.symm h2
     ·exact absurd g h1
    rw[List.pairwise_cons];refine⟨fun e he=>?_,List.pairwise_cons.2 h⟩
    rcases List.mem_cons.1 he with g|g
    ·rw[g];exact h3
    ·exact hS.tr h3 (h.1 e g)
def mrgU (lt:α->α->Prop) [DecidableEq α] [DecidableRel lt](l:List α):List α:=l.foldl (fun s x=>insU lt x s) []
theorem ZNF (hS:ZBY lt):∀{l s:List α},s.Pairwise lt->(l.foldl (fun s x=>insU lt x s) s).Pairwise lt/\∀e,e∈l.foldl (fun s x=>insU lt x s) s ↔ e∈l\/e∈s
 | [],s,h=>⟨h,fun e=>by simp⟩
 | x::l,s,h=>by
  obtain⟨h1,h2⟩:=ZNF hS (l:=l) (ZQA hS (x:=x) h);refine⟨h1,fun e=>?_⟩;rw[List.foldl_cons,h2,ZKJ,List.mem_cons]
  constructor
  ·rintro (g|g|g)
   ·exact .inl (.inr g)
   ·exact .inl (.inl g)
   ·exact .inr g
  ·rintro ((g|g)|g)
   ·exact .inr (.inl g)
   ·exact .inl g
   ·exact .inr (.inr g)
theorem ZEF (hS:ZBY lt)(l:List α):(mrgU lt l).Pairwise lt:=(ZNF hS .nil).1
theorem ZBS (hS:ZBY lt){l:List α}{e:α}:e∈mrgU lt l ↔ e∈l:=by
 unfold mrgU;rw[(ZNF hS (l:=l) (s:=[]) .nil).2 e];exact⟨fun h=>h.elim id fun h=>absurd h List.not_mem_nil,.inl⟩
theorem ZRE (hS:ZBY lt){l l':List α}(h:∀e,e∈l ↔ e∈l'):mrgU lt l=mrgU lt l' :=
 ZQd hS (ZEF hS l) (ZEF hS l') fun e=>by rw[ZBS hS,ZBS hS,h]
theorem ZJS (hS:ZBY lt){l s:List α}(hs:s.Pairwise lt)(h:∀e,e∈s ↔ e∈l):s=mrgU lt l :=
 ZQd hS hs (ZEF hS l) fun e=>by rw[ZBS hS,h]
theorem ZFU (hS:ZBY lt)(l:List α):(mrgU lt l).length<=l.length:=by
 have key:∀(l s:List α),(l.foldl (fun s x=>insU lt x s) s).length<=s.length+l.length:=by
  intro l
  induction l with
  | nil=>intro s;exact Nat.le_refl _
  | cons x l ih =>
   intro s;have h1:=ih (insU lt x s)
   have h2:∀s:List α,(insU lt x s).length<=s.length+1:=fun s=>by
    induction s with
    | nil=>exact Nat.le_refl _
    | cons y s ih2 =>
     rw[insU]
     split
     ·simp only[List.length_cons];omega
     ·split <;> simp only[List.length_cons] <;> omega
   have h3:=h2 s;rw[List.foldl_cons,List.length_cons];omega
 have:=key l []
 simpa [mrgU] using this
end
def lexP {α β:Type}(r:α->α->Prop)(s:β->β->Prop)(x y:α×β):Prop:=r x.1 y.1\/(x.1=y.1/\s x.2 y.2)
theorem ZCN {α β:Type}{r:α->α->Prop}{s:β->β->Prop}(hr:ZBY r)(hs:ZBY s):ZBY (lexP r s) where
 irr:=fun a h=>by
  rcases h with h|⟨-,h⟩
  ·exact hr.irr _ h
  ·exact hs.irr _ h
 tr:=fun {a b c} h1 h2=>by
  rcases h1 with h1|⟨e1,h1⟩ <;> rcases h2 with h2|⟨e2,h2⟩
  ·exact .inl (hr.tr h1 h2)
  ·exact .inl (e2 ▸ h1)
  ·exact .inl (e1 ▸ h2)
  ·exact .inr ⟨e1.trans e2,hs.tr h1 h2⟩
 tri:=fun a b=>by
  rcases hr.tri a.1 b.1 with h|h|h
  ·exact .inl (.inl h)
  ·rcases hs.tri a.2 b.2 with g|g|g
   ·exact .inl (.inr ⟨h,g⟩)
   ·exact .inr (.inl (Prod.ext h g))
   ·exact .inr (.inr (.inr ⟨h.symm,g⟩))
  ·exact .inr (.inr (.inl h))
abbrev ltI (a b:Int):Prop:=a<b
instance:DecidableRel ltI:=fun a b=>inferInstanceAs (Decidable (a<b))
theorem ZDM:ZBY ltI where
 irr:=fun a=>Int.lt_irrefl a
 tr:=fun h1 h2=>Int.lt_trans h1 h2
 tri:=fun a b=>by omega
abbrev ltB (a b:List UInt8):Prop:=a<b
instance:DecidableRel ltB:=fun a b=>inferInstanceAs (Decidable (a<b))
theorem ZAR:ZBY ltB where
 irr:=fun a=>List.lt_irrefl a
 tr:=fun h1 h2=>List.lt_trans h1 h2
 tri:=fun a b=>by
  by_cases h:a<b
  ·exact .inl h
  ·by_cases g:b<a
   ·exact .inr (.inr g)
   ·exact .inr (.inl (List.le_antisymm (List.not_lt.1 g) (List.not_lt.1 h)))
structure WkR where
 archive:List UInt8
 number:Int
 day:Int
 kind:Int
 a:List UInt8
 b:List UInt8
 deriving DecidableEq
abbrev Key:=List UInt8×Int
def WkR.key (x:WkR):Key:=(x.archive,x.number)
abbrev ZSA:=List UInt8×Int×Int×Int×List UInt8×List UInt8
def WkR.tup (x:WkR):ZSA:=(x.archive,x.number,x.day,x.kind,x.a,x.b)
theorem WkR.tup_inj {x y:WkR}(h:x.tup=y.tup):x=y:=by
 cases x;cases y;simp only[WkR.tup,Prod.mk.injEq] at h;obtain⟨rfl,rfl,rfl,rfl,rfl,rfl⟩:=h
 rfl
def ltT:ZSA->ZSA->Prop:=lexP ltB (lexP ltI (lexP ltI (lexP ltI (lexP ltB ltB))))
theorem ZEh:ZBY ltT:=ZCN ZAR (ZCN ZDM (ZCN ZDM (ZCN ZDM (ZCN ZAR ZAR))))
def ltW (x y:WkR):Prop:=ltT x.tup y.tup
theorem ZA0:ZBY ltW where
 irr:=fun a=>ZEh.irr _
 tr:=fun h1 h2=>ZEh.tr h1 h2
 tri:=fun a b=>by
  rcases ZEh.tri a.tup b.tup with h|h|h
  ·exact .inl h
  ·exact .inr (.inl (WkR.tup_inj h))
  ·exact .inr (.inr h)
instance lexDec {α β:Type} [DecidableEq α]{r:α->α->Prop}{s:β->β->Prop} [DecidableRel r] [DecidableRel s]:DecidableRel (lexP r s):=fun x y=>inferInstanceAs (Decidable (r x.1 y.1\/(x.1=y.1/\s x.2 y.2)))
instance ltT5:DecidableRel (lexP ltB ltB):=lexDec
instance ltT4:DecidableRel (lexP ltI (lexP ltB ltB)):=lexDec
instance ltT3:DecidableRel (lexP ltI (lexP ltI (lexP ltB ltB))):=lexDec
instance ltT2:DecidableRel (lexP ltI (lexP ltI (lexP ltI (lexP ltB ltB)))):=lexDec
instance ltT1:DecidableRel ltT:=lexDec
instance:DecidableRel ltW:=fun x y=>inferInstanceAs (Decidable (ltT x.tup y.tup))
def cmpI {α:Type}(lt:α->α->Prop) [DecidableRel lt](a b:α):Int:=if lt a b then -1 else if lt b a then 1 else 0
theorem ZJV {α:Type}{lt:α->α->Prop} [DecidableRel lt]{a b:α}:cmpI lt a b<0 ↔ lt a b:=by
 unfold cmpI
 split
 ·simp[*]
 ·split <;> simp[*]
theorem ZFq {α β:Type}{r:α->α->Prop}{s:β->β->Prop} [DecidableEq α] [DecidableRel r] [DecidableRel s](hr:ZBY r)(x y:α×β):cmpI (lexP r s) x y=if cmpI r x.1 y.1≠0 then cmpI r x.1 y.1 else cmpI s x.2 y.2:=by
 rcases hr.tri x.1 y.1 with h|h|h
 ·have h':¬r y.1 x.1:=fun g=>hr.irr _ (hr.tr h g)
  have e:¬y.1=x.1:=fun e=>hr.irr _ (e ▸ h);simp[cmpI,lexP,h]
 ·have h1:¬r x.1 y.1:=h ▸ hr.irr _
  have h2:¬r y.1 x.1:=h ▸ hr.irr _;simp[cmpI,lexP,h,hr.irr]
 ·have h':¬r x.1 y.1:=fun g=>hr.irr _ (hr.tr h g)
  have e:¬x.1=y.1:=fun e=>hr.irr _ (e ▸ h);simp[cmpI,lexP,h,h',e]
def ZCK:List Int->Int
 | []=>0
 | n::l=>if n≠0 then n else ZCK l
theorem nz6 (z1 z2 z3 z4 z5 z6:Int):(if z1≠0 then z1 else if z2≠0 then z2 else if z3≠0 then z3 else if z4≠0 then z4 else if z5≠0 then z5 else z6)=ZCK [z1,z2,z3,z4,z5,z6]:=by
 simp only[ZCK]
 repeat' split
 all_goals first|rfl|omega
theorem ZOr (x y:WkR):cmpI ltW x y=ZCK [cmpI ltB x.archive y.archive,cmpI ltI x.number y.number,cmpI ltI x.day y.day,cmpI ltI x.kind y.kind,cmpI ltB x.a y.a,cmpI ltB x.b y.b]:=by
 have h0:cmpI ltW x y=cmpI ltT x.tup y.tup:=rfl;have hi:=ZDM;have hb:=ZAR;rw[h0];have e1:=ZFq (s:=lexP ltI (lexP ltI (lexP ltI (lexP ltB ltB)))) hb x.tup y.tup;have e2:=ZFq (s:=lexP ltI (lexP ltI (lexP ltB ltB))) hi x.tup.2 y.tup.2;have e3:=ZFq (s:=lexP ltI (lexP ltB ltB)) hi x.tup.2.2 y.tup.2.2;have e4:=ZFq (s:=lexP ltB ltB) hi x.tup.2.2.2 y.tup.2.2.2;have e5:=ZFq (s:=ltB) hb x.tup.2.2.2.2 y.tup.2.2.2.2;rw[e5] at e4;rw[e4] at e3;rw[e3] at e2;rw[e2] at e1;refine e1.trans ?_;exact nz6 _ _ _ _ _ _
end Go.Dw
namespace Go.Dw
open Go
def isD (c:UInt8):Bool:=decide (48<=c.toNat/\c.toNat<=57)
def valG (n:Nat)(l:List UInt8):Nat:=l.foldl (fun n c=>10*n+(c.toNat-48)) n
def numR (l:List UInt8):Nat:=if (1<=l.length/\l.length<=4)/\l.head?≠some 48/\l.all isD=true then valG 0 l else 0
theorem ZKi (n:Nat)(l:List UInt8)(c:UInt8):valG n (l++[c])=10*valG n l+(c.toNat-48):=by
 unfold valG;rw[List.foldl_append];rfl
theorem ZQ2:∀(l:List UInt8)(n:Nat),n<=valG n l
 | [],n=>Nat.le_refl _
 | c::l,n=>by
  have h1:=ZQ2 l (10*n+(c.toNat-48));have h2:valG n (c::l)=valG (10*n+(c.toNat-48)) l:=rfl;omega
theorem ZPA:∀(l:List UInt8)(n:Nat),l.all isD=true->valG n l<(n+1)*10 ^ l.length
 | [],n,_=>by simp[valG]
 | c::l,n,h=>by
  simp only[List.all_cons,Bool.and_eq_true] at h;have h1:=ZPA l (10*n+(c.toNat-48)) h.2;have h2:valG n (c::l)=valG (10*n+(c.toNat-48)) l:=rfl;have h3:=of_decide_eq_true h.1;have h4:(n+1)*10 ^ (c::l).length=(10*n+10)*10 ^ l.length:=by
   rw[List.length_cons,Nat.pow_succ,Nat.mul_comm (10 ^ l.length) 10,<-Nat.mul_assoc,Nat.add_mul,Nat.mul_comm n 10]
  have h5:(10*n+(c.toNat-48)+1)*10 ^ l.length<=(10*n+10)*10 ^ l.length:=Nat.mul_le_mul_right _ (by omega);omega
theorem ZTC {l:List UInt8}(hne:l≠[])(h0:l.head?≠some 48)(hd:l.all isD=true):1<=valG 0 l:=by
 cases l with
 | nil=>exact absurd rfl hne
 | cons c l =>
  simp only[List.all_cons,Bool.and_eq_true] at hd;have h3:=of_decide_eq_true hd.1
  have hc:c.toNat≠48:=fun e=>h0 (by
   have:c=48:=UInt8.toNat_inj.1 e;rw[this];rfl)
  have h2:valG 0 (c::l)=valG (10*0+(c.toNat-48)) l:=rfl;have:=ZQ2 l (10*0+(c.toNat-48));omega
theorem ZGh:∀(l:List UInt8)(n:Nat),l.all isD=true->(n+1)*10 ^ l.length<=100000000->Lib.parseUint10 n l=.ok (valG n l)
 | [],n,_,_=>rfl
 | c::l,n,h,hb=>by
  simp only[List.all_cons,Bool.and_eq_true] at h;have h3:=of_decide_eq_true h.1;have h4:(n+1)*10 ^ (c::l).length=(10*n+10)*10 ^ l.length:=by
   rw[List.length_cons,Nat.pow_succ,Nat.mul_comm (10 ^ l.length) 10,<-Nat.mul_assoc,Nat.add_mul,Nat.mul_comm n 10]
  have h5:(10*n+(c.toNat-48)+1)*10 ^ l.length<=(10*n+10)*10 ^ l.length:=Nat.mul_le_mul_right _ (by omega);have h6:10*n+10<=(10*n+10)*10 ^ l.length:=Nat.le_mul_of_pos_right _ (Nat.pow_pos (by decide));have e:n*10+(c.toNat-48)=10*n+(c.toNat-48):=by omega
  have ih:=ZGh l (n*10+(c.toNat-48)) h.2 (by rw[e];omega);rw[Lib.parseUint10,if_pos h3,if_neg (by omega),if_neg (by omega),ih]
  show Lib.NumEnd.ok _=Lib.NumEnd.ok (valG (10*n+(c.toNat-48)) l)
  rw[e]
theorem ZKj {c:UInt8}(h:isD c=true):UInt8.ofNat (48+(c.toNat-48))=c:=by
 have h3:=of_decide_eq_true h;have:48+(c.toNat-48)=c.toNat:=by omega
 rw[this];simp
theorem ZUF:∀{k:Nat}{l:List UInt8},l.length=k->l≠[]->l.head?≠some 48->l.all isD=true->Lib.decDigits (valG 0 l)=l:=by
 intro k
 induction k with
 | zero=>intro l hl hne;exact absurd (List.length_eq_zero_iff.1 hl) hne
 | succ k ih =>
  intro l hl hne h0 hd
  rcases List.eq_nil_or_concat l with rfl|⟨r,x,rfl⟩
  ·exact absurd rfl hne
  rw[List.concat_eq_append] at *;rw[ZKi];simp only[List.all_append,List.all_cons,List.all_nil,Bool.and_true,Bool.and_eq_true] at hd;have hx:=of_decide_eq_true hd.2;have hrl:r.length=k:=by simpa using hl
  by_cases hr:r=[]
  ·subst hr
   have e:10*valG 0 []+(x.toNat-48)=x.toNat-48:=by show 10*0+_=_;omega
   rw[e,Lib.decDigits,dif_pos (by omega),ZKj hd.2];rfl
  ·have hh:r.head?≠some 48:=by
    cases r with
    | nil=>exact absurd rfl hr
    | cons y r=>simpa using h0
   have hp:=ZTC hr hh hd.1;rw[Lib.decDigits,dif_neg (by omega)];have e1:(10*valG 0 r+(x.toNat-48)) / 10=valG 0 r:=by omega
   have e2:(10*valG 0 r+(x.toNat-48)) % 10=x.toNat-48:=by omega
   rw[e1,e2,ih hrl hr hh hd.1,ZKj hd.2]
theorem ZIH {u:Nat}(h:u<10):(UInt8.ofNat (48+u)).toNat=48+u:=by
 rw[UInt8.toNat_ofNat'];omega
theorem ZK2 (u:Nat):(Lib.decDigits u).all isD=true/\valG 0 (Lib.decDigits u)=u/\Lib.decDigits u≠[]/\(1<=u->(Lib.decDigits u).head?≠some 48)/\∀k,1<=k->u<10 ^ k->(Lib.decDigits u).length<=k:=by
 induction u using Nat.strongRecOn with
 | ind u ih =>
  rw[Lib.decDigits]
  by_cases h:u<10
  ·rw[dif_pos h]
   have e:=ZIH h;refine⟨?_,?_,by simp,fun h1=>?_,fun k hk _=>hk⟩
   ·simp only[List.all_cons,List.all_nil,Bool.and_true]
    exact decide_eq_true (by omega)
   ·show 10*0+((UInt8.ofNat (48+u)).toNat-48)=u
    omega
   ·intro hq
    simp only[List.head?_cons,Option.some.injEq] at hq;have:=congrArg UInt8.toNat hq;rw[e] at this;have h48:(48:UInt8).toNat=48:=rfl;omega
  ·rw[dif_neg h]
   obtain⟨i1,i2,i3,i4,i5⟩:=ih (u / 10) (by omega);have e:=ZIH (show u % 10<10 by omega);refine⟨?_,?_,by simp,fun _=>?_,fun k hk hu=>?_⟩
   ·rw[List.all_append,i1]
    simp only[List.all_cons,List.all_nil,Bool.and_true,Bool.true_and];exact decide_eq_true (by omega)
   ·rw[ZKi,i2,e];omega
   ·have:=i4 (by omega)
    cases hq:Lib.decDigits (u / 10) with
    | nil=>exact absurd hq i3
    | cons y r=>rw[hq] at this;simpa using this
   ·rw[List.length_append]
    cases k with
    | zero=>omega
    | succ k =>
     rw[Nat.pow_succ] at hu;have hk0:1<=k:=by
      cases k with
      | zero=>simp at hu;omega
      | succ k=>omega
     have:=i5 k hk0 (by omega);simp only[List.length_cons,List.length_nil];omega
theorem ZMp (l:List UInt8):0<numR l ↔ ∃n:Int,Lib.atoiAll l=.ok n/\1<=n/\n<=9999/\Lib.itoa n=l:=by
 constructor
 ·intro h
  unfold numR at h
  split at h
  ·rename_i hc
   obtain⟨⟨h1,h2⟩,h3,h4⟩:=hc;have hne:l≠[]:=by rintro rfl;simp at h1
   have hlt:=ZPA l 0 h4;have hp:(10:Nat) ^ l.length<=10 ^ 4:=Nat.pow_le_pow_right (by decide) h2;have hpar:=ZGh l 0 h4 (by simp at hp ⊢;omega);have hd:=ZUF rfl hne h3 h4;refine⟨(valG 0 l:Nat),?_,by omega,by simp at hp hlt;omega,?_⟩
   ·cases l with
    | nil=>exact absurd rfl hne
    | cons c r =>
     have h4':=h4;simp only[List.all_cons,Bool.and_eq_true] at h4';have hcd:=of_decide_eq_true h4'.1;unfold Lib.atoiAll;simp only;rw[if_neg (show ¬(c.toNat=43\/c.toNat=45) by omega)];unfold Lib.parseMag;rw[if_neg (by simp),hpar];simp only;have hv:valG 0 (c::r)<10000:=by simp at hp hlt;omega
     rw[if_neg (by omega),if_neg (by omega),if_neg (by omega)]
   ·unfold Lib.itoa
    rw[if_neg (by omega)]
    simpa using hd
  ·exact absurd h (by omega)
 ·rintro⟨n,-,h1,h2,h3⟩
  unfold Lib.itoa at h3;rw[if_neg (by omega)] at h3;obtain⟨p1,p2,p3,p4,p5⟩:=ZK2 n.toNat;rw[h3] at p1 p2 p3 p4 p5;have:=p5 4 (by decide) (by omega);have hl:1<=l.length:=List.length_pos_iff.2 p3;unfold numR;rw[if_pos ⟨⟨hl,this⟩,p4 (by omega),p1⟩,p2];omega
theorem ZTN {l:List UInt8}{n:Int}(h:0<numR l)(ha:Lib.atoiAll l=.ok n):n=numR l:=by
 obtain⟨m,h1,h2,h3,h4⟩:=(ZMp l).1 h;rw[ha] at h1;cases h1;unfold Lib.itoa at h4;rw[if_neg (by omega)] at h4;obtain⟨p1,p2,p3,p4,p5⟩:=ZK2 n.toNat;rw[h4] at p1 p2 p3 p4 p5;unfold numR at h ⊢
 split
 ·omega
 ·rename_i hc
  rw[if_neg hc] at h;omega
theorem ZBd {α:Type} [Inhabited α]{S:List α}{i:Nat}(hi:i<S.length):S.getD i default=S[i]:=by rw[List.getD_eq_getElem?_getD,List.getElem?_eq_getElem hi];rfl
section
variable {α:Type} [Inhabited α] [DecidableEq α]
def anew (S:List α)(i:Nat):Bool:=decide (i=0\/S.getD i default≠S.getD (i-1) default)
def cmpG (S:List α)(j:Nat):List α:=((List.range j).filter (anew S)).map fun i=>S.getD i default
theorem ZB8 (S:List α)(j:Nat):cmpG S (j+1)=if anew S j=true then cmpG S j++[S.getD j default] else cmpG S j:=by
 unfold cmpG;rw[List.range_succ,List.filter_append,List.map_append]
 cases hq:anew S j with
 | true=>simp[hq]
 | false=>simp[hq]
theorem ZEg {S:List α}{j:Nat}(hj:j<=S.length)(h:∀i,i<j->anew S i=true):cmpG S j=S.take j:=by
 induction j with
 | zero=>rfl
 | succ j ih =>
  rw[ZB8,if_pos (h j (by omega)),ih (by omega) fun i hi=>h i (by omega),List.take_add_one,List.getElem?_eq_getElem (by omega),ZBd (by omega)]
  rfl
theorem ZQf {lt:α->α->Prop}(hS:ZBY lt){S:List α}(hp:S.Pairwise fun a b=>¬lt b a):∀{j:Nat},j<=S.length->(cmpG S j).Pairwise lt/\∀e∈cmpG S j,∃i,∃hi:i<j,S.getD i default=e
 | 0,_=>⟨.nil,fun _ h=>nomatch h⟩
 | j+1,hj=>by
  obtain⟨h1,h2⟩:=ZQf hS hp (j:=j) (by omega);rw[ZB8]
  split
  ·rename_i hn
   refine⟨List.pairwise_append.2 ⟨h1,by simp,fun a ha b hb=>?_⟩,fun e he=>?_⟩
   ·rw[List.mem_singleton.1 hb]
    obtain⟨i,hi,rfl⟩:=h2 a ha
    rcases of_decide_eq_true hn with e0|hne
    ·omega
    have hp:=List.pairwise_iff_getElem.1 hp;rw[ZBd (show j<S.length by omega),ZBd (show j-1<S.length by omega)] at hne;rw[ZBd (show j<S.length by omega),ZBd (show i<S.length by omega)];have e1:lt S[j-1] S[j]:=by
     rcases hS.tri S[j-1] S[j] with g|g|g
     ·exact g
     ·exact absurd g.symm hne
     ·exact absurd g (hp (j-1) j (by omega) (by omega) (by omega))
    rcases Nat.lt_or_ge i (j-1) with q|q
    ·have:=hp i (j-1) (by omega) (by omega) q
     rcases hS.tri S[i] S[j-1] with g|g|g
     ·exact hS.tr g e1
     ·rw[g];exact e1
     ·exact absurd g this
    ·obtain rfl:i=j-1:=by omega
     exact e1
   ·rcases List.mem_append.1 he with q|q
    ·obtain⟨i,hi,e⟩:=h2 e q
     exact⟨i,by omega,e⟩
    ·exact⟨j,by omega,(List.mem_singleton.1 q).symm⟩
  ·exact⟨h1,fun e he=>by obtain⟨i,hi,q⟩:=h2 e he;exact⟨i,by omega,q⟩⟩
theorem ZKM {S:List α}:∀{j:Nat},∀i,i<j->S.getD i default∈cmpG S j
 | 0,i,hi=>absurd hi (by omega)
 | j+1,i,hi=>by
  rw[ZB8]
  rcases Nat.lt_or_ge i j with q|q
  ·have:=ZKM (S:=S) (j:=j) i q
   split
   ·exact List.mem_append_left _ this
   ·exact this
  ·obtain rfl:i=j:=by omega
   split
   ·simp
   ·rename_i hn
    cases i with
    | zero=>exact absurd (decide_eq_true (Or.inl rfl)) hn
    | succ i =>
     have he:S.getD (i+1) default=S.getD i default:=by
      apply Classical.byContradiction;intro hc;exact hn (decide_eq_true (Or.inr hc))
     rw[he];exact ZKM (S:=S) (j:=i+1) i (by omega)
theorem ZS3 {lt:α->α->Prop} [DecidableRel lt](hS:ZBY lt){S l:List α}(hp:S.Pairwise fun a b=>¬lt b a)(hm:∀e,e∈S ↔ e∈l):cmpG S S.length=mrgU lt l:=by
 obtain⟨h1,h2⟩:=ZQf hS hp (Nat.le_refl S.length);refine ZJS hS h1 fun e=>⟨fun he=>?_,fun he=>?_⟩
 ·obtain⟨i,hi,q⟩:=h2 e he
  rw[ZBd hi] at q;rw[<-hm,<-q];exact List.getElem_mem hi
 ·obtain⟨i,hi,q⟩:=List.getElem_of_mem ((hm e).2 he)
  have:=ZKM (S:=S) (j:=S.length) i hi;rw[ZBd hi,q] at this;exact this
end
def cntK (l:List WkR)(k:Key):Nat:=(l.filter fun x=>decide (x.key=k)).length
theorem ZHx (l:List WkR)(x:WkR)(k:Key):cntK (l++[x]) k=cntK l k+if x.key=k then 1 else 0:=by
 unfold cntK;rw[List.filter_append,List.length_append]
 by_cases h:x.key=k <;> simp[h]
def ZC4 (l:List WkR)(k:Key):Option WkR:=match l.filter fun x=>decide (x.key=k) with
 | [x]=>some x
 | _=>none
theorem ZCj {l:List WkR}{k:Key}{x:WkR}:ZC4 l k=some x ↔ x∈l/\x.key=k/\cntK l k=1:=by
 unfold ZC4 cntK;have hm:∀y,y∈(l.filter fun x=>decide (x.key=k)) ↔ y∈l/\y.key=k:=fun y=>by simp
 generalize (l.filter fun x=>decide (x.key=k))=f at hm
 rcases f with _|⟨y,_|⟨z,f⟩⟩
 ·simp
 ·simp only[Option.some.injEq,List.length_cons,List.length_nil]
  constructor
  ·rintro rfl
   have:=(hm y).1 (by simp);exact⟨this.1,this.2,by trivial⟩
  ·rintro⟨h1,h2,-⟩
   have:=(hm x).2 ⟨h1,h2⟩;exact (List.mem_singleton.1 this).symm
 ·simp
theorem ZGY {l:List WkR}{k:Key}:ZC4 l k=none ↔ cntK l k≠1:=by
 unfold ZC4 cntK;generalize (l.filter fun x=>decide (x.key=k))=f
 rcases f with _|⟨y,_|⟨z,f⟩⟩ <;> simp
theorem ZLW {l:List WkR}{k:Key}:(ZC4 l k).isSome=decide (cntK l k=1):=by
 cases h:ZC4 l k with
 | none=>simp[ZGY.1 h]
 | some x=>simp[(ZCj.1 h).2.2]
theorem ZIs (l:List WkR)(x:WkR)(k:Key):ZC4 (l++[x]) k=if k=x.key then (if cntK l k=0 then some x else none) else ZC4 l k:=by
 by_cases h:k=x.key
 ·subst h
  rw[if_pos rfl]
  split
  ·rename_i h0
   rw[ZCj];refine⟨by simp,rfl,?_⟩;rw[ZHx,h0,if_pos rfl]
  ·rw[ZGY,ZHx,if_pos rfl];omega
 ·rw[if_neg h]
  unfold ZC4;rw[List.filter_append];have e:¬x.key=k:=fun e=>h e.symm;have e2:([x].filter fun x=>decide (x.key=k))=[]:=by simp[e]
  rw[e2,List.append_nil]
def ZPn (s:List WkR×List Key)(x:WkR):List WkR×List Key:=(s.1++[x],if cntK s.1 x.key=1 then s.2++[x.key] else s.2)
def ZCB (l:List WkR):List Key:=(l.foldl ZPn ([],[])).2
theorem ZQR (l:List WkR):(l.foldl ZPn ([],[])).1=l:=by
 have key:∀(l:List WkR) (s:List WkR×List Key),(l.foldl ZPn s).1=s.1++l:=by
  intro l
  induction l with
  | nil=>intro s;simp
  | cons x l ih=>intro s;rw[List.foldl_cons,ih];simp[ZPn]
 simpa using key l ([],[])
theorem ZF8 (l:List WkR)(x:WkR):ZCB (l++[x])=if cntK l x.key=1 then ZCB l++[x.key] else ZCB l:=by
 unfold ZCB;rw[List.foldl_append,List.foldl_cons,List.foldl_nil];have h:=ZQR l;generalize l.foldl ZPn ([],[])=s at h;subst h
 rfl
theorem ZEf {α:Type}{p:List α->Prop}(h0:p [])(h1:∀l x,p l->p (l++[x]))(l:List α):p l:=by
 have:∀n (l:List α),l.length=n->p l:=by
  intro n
  induction n with
  | zero=>intro l hl;rw[List.eq_nil_of_length_eq_zero hl];exact h0
  | succ n ih =>
   intro l hl
   rcases List.eq_nil_or_concat l with rfl|⟨r,x,rfl⟩
   ·exact h0
   ·rw[List.concat_eq_append] at hl ⊢
    exact h1 _ _ (ih r (by simpa using hl))
 exact this _ l rfl
theorem ZPp {l:List WkR}{k:Key}:k∈ZCB l ↔ 2<=cntK l k:=by
 induction l using ZEf with
 | h0=>simp[ZCB,cntK]
 | h1 l x ih =>
  rw[ZF8,ZHx]
  by_cases hx:x.key=k
  ·subst hx
   rw[if_pos rfl]
   split
   ·rename_i h1;simp[h1]
   ·rename_i h1
    rw[ih];omega
  ·rw[if_neg hx]
   split
   ·rw[List.mem_append,ih,List.mem_singleton]
    constructor
    ·rintro (h|h)
     ·omega
     ·exact absurd h.symm hx
    ·intro h;left;omega
   ·rw[ih];omega
theorem ZPk (l:List WkR):(ZCB l).length<=l.length:=by
 induction l using ZEf with
 | h0=>simp[ZCB]
 | h1 l x ih =>
  rw[ZF8]
  split <;> simp only[List.length_append,List.length_cons,List.length_nil] <;> omega
def ZHk (l:List WkR)(x:WkR):Bool:=decide (x.kind=6/\cntK l x.key=1/\x.a=x.archive)
def tgtK (x:WkR):Key:=(x.a,(numR x.b:Int))
def ZHp (l p:List WkR):List Key:=(p.filter (ZHk l)).map tgtK
theorem ZI8 (l p:List WkR)(x:WkR):ZHp l (p++[x])=if ZHk l x=true then ZHp l p++[tgtK x] else ZHp l p:=by
 unfold ZHp;rw[List.filter_append,List.map_append]
 by_cases h:ZHk l x=true <;> simp[h]
def ZEI (l:List WkR)(x:WkR):Bool:=decide (x.kind≠6/\cntK l x.key=1/\x.key ∉ ZHp l l)
def ZAk (l:List WkR):List WkR:=l.filter (ZEI l)
def ZCc (l p:List WkR)(k:Key):Option WkR:=(ZC4 l k).filter fun y=>decide (y.kind=6\/k ∉ ZHp l p)
theorem ZOt {l p:List WkR}{x:WkR}(hx:ZHk l x=true)(k:Key):ZCc l (p++[x]) k=if k=tgtK x/\(∀y,ZCc l p k=some y->y.kind≠6) then none else ZCc l p k:=by
 unfold ZCc;rw[ZI8,if_pos hx]
 cases h:ZC4 l k with
 | none=>simp
 | some y =>
  simp only[Option.filter_some,List.mem_append,List.mem_singleton]
  by_cases h6:y.kind=6
  ·simp[h6]
  ·by_cases hd:k∈ZHp l p
   ·simp[h6,hd]
   ·by_cases ht:k=tgtK x
    ·simp[h6,hd,ht]
    ·simp[h6,hd,ht]
theorem ZOL {l p:List WkR}{x:WkR}(hx:ZHk l x=false)(k:Key):ZCc l (p++[x]) k=ZCc l p k:=by
 unfold ZCc;rw[ZI8,if_neg (by rw[hx];simp)]
theorem ZS8 {l p:List WkR}{x:WkR}(hx:x∈l){y:WkR}(h:ZCc l p x.key=some y):y=x/\cntK l x.key=1:=by
 unfold ZCc at h;rw[Option.filter_eq_some_iff] at h;obtain⟨h1,h2,h3⟩:=ZCj.1 h.1;refine⟨?_,h3⟩;have hm:ZC4 l x.key=some x:=ZCj.2 ⟨hx,rfl,h3⟩;rw[hm] at h;exact (Option.some.inj h.1).symm
theorem ZOF {l p:List WkR}{x:WkR}(hx:x∈l)(h6:x.kind=6)(h1:cntK l x.key=1):ZCc l p x.key=some x:=by
 unfold ZCc;rw[ZCj.2 ⟨hx,rfl,h1⟩,Option.filter_some];simp[h6]
theorem ZMF {l:List WkR}{x:WkR}(hx:x∈l):ZEI l x=((ZCc l l x.key).isSome && decide (x.kind≠6)):=by
 unfold ZEI ZCc;rw[Bool.eq_iff_iff];simp only[decide_eq_true_eq,Bool.and_eq_true]
 by_cases h1:cntK l x.key=1
 ·rw[ZCj.2 ⟨hx,rfl,h1⟩,Option.filter_some]
  by_cases h6:x.kind=6
  ·simp[h6]
  ·by_cases hd:x.key∈ZHp l l <;> simp[h6,h1,hd]
 ·rw[ZGY.2 h1]
  simp[h1]
abbrev Str:=List UInt8
theorem ZBH {α:Type} [DecidableEq α]:∀{l m:List α},l.Nodup->(∀x∈l,x∈m)->l.length<=m.length
 | [],_,_,_=>Nat.zero_le _
 | a::l,m,hn,hs=>by
  rw[List.nodup_cons] at hn;have ha:=hs a List.mem_cons_self
  have:=ZBH (l:=l) (m:=m.erase a) hn.2 (fun x hx=>by
   rw[List.mem_erase_of_ne (fun e=>hn.1 (by rw[<-e];exact hx))];exact hs x (List.mem_cons_of_mem _ hx))
  rw[List.length_erase_of_mem ha] at this;have hp:0<m.length:=List.length_pos_of_mem ha;simp only[List.length_cons];omega
def ofK (ks:List Int)(s:List WkR):List WkR:=s.filter fun x=>decide (x.kind∈ks)
theorem ZDL {ks:List Int}{s:List WkR}{x:WkR}:x∈ofK ks s ↔ x∈s/\x.kind∈ks:=by
 unfold ofK;simp
def tieI (x:WkR):Str×Str:=(35::x.a,x.b)
def tieS (x:WkR):Str×Str:=(x.a,x.b)
def edgW (s:List WkR):List (Str×Str):=(ofK [1] s).map tieI++(ofK [2] s).map tieS
def adjR (E:List (Str×Str))(k:Str):List Str:=E.flatMap fun e=>(if e.1=k then [e.2] else [])++if e.2=k then [e.1] else []
theorem ZPt (E:List (Str×Str))(e:Str×Str)(k:Str):adjR (E++[e]) k=adjR E k++((if e.1=k then [e.2] else [])++if e.2=k then [e.1] else []):=by
 unfold adjR;rw[List.flatMap_append];simp
theorem ZSc {E:List (Str×Str)}{k z:Str}:z∈adjR E k ↔ (k,z)∈E\/(z,k)∈E:=by
 unfold adjR;rw[List.mem_flatMap]
 constructor
 ·rintro⟨⟨a,b⟩,h1,h2⟩
  rcases List.mem_append.1 h2 with h|h
  ·split at h
   ·rename_i e
    rw[List.mem_singleton] at h
    left;rw[h,<-e];exact h1
   ·exact absurd h List.not_mem_nil
  ·split at h
   ·rename_i e
    rw[List.mem_singleton] at h
    right;rw[h,<-e];exact h1
   ·exact absurd h List.not_mem_nil
 ·rintro (h|h)
  ·exact⟨_,h,by simp⟩
  ·exact⟨_,h,by simp⟩
theorem ZJl (E:List (Str×Str))(k:Str):(adjR E k).length<=2*E.length:=by
 induction E with
 | nil=>exact Nat.le_refl _
 | cons e E ih =>
  unfold adjR at ih ⊢;rw[List.flatMap_cons,List.length_append,List.length_append,List.length_cons]
  have h1:(if e.1=k then [e.2] else []).length<=1:=by split <;> simp
  have h2:(if e.2=k then [e.1] else []).length<=1:=by split <;> simp
  omega
def endE (E:List (Str×Str)):List Str:=E.flatMap fun e=>[e.1,e.2]
theorem ZIF (E:List (Str×Str))(e:Str×Str):endE (E++[e])=endE E++[e.1,e.2]:=by
 unfold endE;rw[List.flatMap_append];simp
theorem ZHA {E:List (Str×Str)}{k:Str}:k∈endE E ↔ ∃e∈E,k=e.1\/k=e.2:=by
 unfold endE;simp
def nodW (s:List WkR):List Str:=endE (edgW s)++endE ((ofK [3] s).map tieS)++(ofK [4] s).map WkR.a
def nxtW (s:List WkR)(k:Str):List Str:=mrgU ltB (adjR (edgW s) k)
theorem ZFf {s:List WkR}{k z:Str}:z∈nxtW s k ↔ (k,z)∈edgW s\/(z,k)∈edgW s:=by
 unfold nxtW;rw[ZBS ZAR,ZSc]
theorem ZPB {s:List WkR}{k z:Str}:z∈nxtW s k ↔ k∈nxtW s z:=by
 rw[ZFf,ZFf];exact Or.comm
theorem ZHI (s:List WkR):(edgW s).length<=2*s.length:=by
 unfold edgW ofK;rw[List.length_append,List.length_map,List.length_map];have h1:=List.length_filter_le (fun x:WkR=>decide (x.kind∈[(1:Int)])) s;have h2:=List.length_filter_le (fun x:WkR=>decide (x.kind∈[(2:Int)])) s;omega
abbrev QE:=Str×Str
def addQ (v:Str)(Q:List QE)(z:Str):List QE:=if z∈Q.map Prod.fst then Q else Q++[(z,v)]
def ZS0 (nxt:Str->List Str)(Q:List QE)(v:Str):List QE:=(nxt v).foldl (addQ v) Q
def bfsQ (nxt:Str->List Str)(a:Str):Nat->List QE
 | 0=>[(a,[])]
 | i+1=>match (bfsQ nxt a i)[i]? with
  | none=>bfsQ nxt a i
  | some e=>ZS0 nxt (bfsQ nxt a i) e.1
def prdQ (Q:List QE)(s:Str):Option Str:=(Q.find? fun e=>decide (e.1=s)).map Prod.snd
def ZCx (Q:List QE):Nat->Str->List Str
 | 0,_=>[]
 | n+1,s=>if s=[] then [] else s::ZCx Q n ((prdQ Q s).getD [])
structure QOK (a:Str)(Q:List QE):Prop where
 nd:(Q.map Prod.fst).Nodup
 hd:Q[0]?=some (a,[])
 ld:∀j e,Q[j]?=some e->0<j->∃k e',k<j/\Q[k]?=some e'/\e'.1=e.2
theorem QOK.one (a:Str):QOK a [(a,[])] where
 nd:=by simp
 hd:=rfl
 ld:=fun j e hj h0=>by
  cases j with
  | zero=>omega
  | succ j=>simp at hj
theorem ZNd (v:Str)(Q:List QE)(z:Str):∃R,addQ v Q z=Q++R:=by
 unfold addQ
 split
 ·exact⟨[],by simp⟩
 ·exact⟨_,rfl⟩
theorem ZG6 (v:Str):∀(l:List Str)(Q:List QE),∃R,l.foldl (addQ v) Q=Q++R
 | [],Q=>⟨[],by simp⟩
 | z::l,Q=>by
  obtain⟨R1,h1⟩:=ZNd v Q z;obtain⟨R2,h2⟩:=ZG6 v l (addQ v Q z);exact⟨R1++R2,by rw[List.foldl_cons,h2,h1,List.append_assoc]⟩
theorem QOK.add {a v z:Str}{Q:List QE}(h:QOK a Q)(hv:v∈Q.map Prod.fst):QOK a (addQ v Q z):=by
 unfold addQ
 split
 ·exact h
 ·rename_i hz
  refine⟨?_,?_,fun j e hj h0=>?_⟩
  ·rw[List.map_append,List.nodup_append]
   refine⟨h.nd,by simp,fun x hx y hy e=>hz ?_⟩;simp at hy;rw[<-hy,<-e];exact hx
  ·have:=h.hd
   cases Q with
   | nil=>simp at this
   | cons q Q=>simpa using this
  ·rcases Nat.lt_or_ge j Q.length with q|q
   ·rw[List.getElem?_append_left q] at hj
    obtain⟨k,e',h1,h2,h3⟩:=h.ld j e hj h0;exact⟨k,e',h1,by rw[List.getElem?_append_left (by omega)];exact h2,h3⟩
   ·rw[List.getElem?_append_right q] at hj
    obtain⟨e',he',rfl⟩:=List.mem_map.1 hv;obtain⟨k,hk,rfl⟩:=List.getElem_of_mem he';have:j-Q.length=0:=by
     cases hq:j-Q.length with
     | zero=>rfl
     | succ n=>rw[hq] at hj;simp at hj
    rw[this] at hj;cases hj;exact⟨k,_,by omega,by rw[List.getElem?_append_left hk,List.getElem?_eq_getElem hk],rfl⟩
theorem QOK.fold {a v:Str}:∀(l:List Str){Q:List QE},QOK a Q->v∈Q.map Prod.fst->QOK a (l.foldl (addQ v) Q)
 | [],_,h,_=>h
 | z::l,Q,h,hv=>by
  rw[List.foldl_cons];refine QOK.fold l (h.add hv) ?_;obtain⟨R,e⟩:=ZNd v Q z;rw[e,List.map_append];exact List.mem_append_left _ hv
theorem QOK.bfs (nxt:Str->List Str)(a:Str):∀i,QOK a (bfsQ nxt a i)
 | 0=>QOK.one a
 | i+1=>by
  have h:=QOK.bfs nxt a i;unfold bfsQ
  split
  ·exact h
  ·rename_i e he
   exact QOK.fold _ h (List.mem_map.2 ⟨e,List.mem_of_getElem? he,rfl⟩)
theorem ZMR {v:Str}{N:Str->Prop}:∀(l:List Str){Q:List QE},(∀e∈Q,N e.1)->(∀z∈l,N z)->∀e∈l.foldl (addQ v) Q,N e.1
 | [],_,h,_=>h
 | z::l,Q,h,hl=>by
  rw[List.foldl_cons];refine ZMR l (fun e he=>?_) fun x hx=>hl x (List.mem_cons_of_mem _ hx);unfold addQ at he
  split at he
  ·exact h e he
  ·rcases List.mem_append.1 he with he|he
   ·exact h e he
   ·rw[List.mem_singleton.1 he];exact hl z List.mem_cons_self
theorem ZQO {nxt:Str->List Str}{a:Str}{N:Str->Prop}(ha:N a)(hN:∀v,N v->∀z∈nxt v,N z):∀i,∀e∈bfsQ nxt a i,N e.1
 | 0,e,he=>by
  have:e=(a,[]):=by simpa [bfsQ] using he
  rw[this];exact ha
 | i+1,e,he=>by
  have h:=ZQO ha hN i;unfold bfsQ at he
  split at he
  ·exact h e he
  ·rename_i e0 he0
   exact ZMR _ h (hN _ (h e0 (List.mem_of_getElem? he0))) e he
theorem ZHO {a:Str}{Q:List QE}(h:QOK a Q){j:Nat}{e:QE}(hj:Q[j]?=some e):prdQ Q e.1=some e.2:=by
 unfold prdQ;have hf:Q.find? (fun e'=>decide (e'.1=e.1))=some e:=by
  rw[List.find?_eq_some_iff_getElem];obtain⟨h1,h2⟩:=List.getElem?_eq_some_iff.1 hj;refine⟨by simp,j,h1,h2,fun i hi=>?_⟩
  have hne:(Q.map Prod.fst)[i]'(by simp;omega)≠(Q.map Prod.fst)[j]'(by simp;exact h1):=fun e=>by
   have:=(List.getElem_inj h.nd).1 e;omega
  simp only[List.getElem_map,h2] at hne
  simpa using hne
 rw[hf];rfl
theorem ZOh {a:Str}{Q:List QE}(h:QOK a Q):∀{j:Nat}{e:QE}{n m:Nat},Q[j]?=some e->j+2<=n->j+2<=m->ZCx Q n e.1=ZCx Q m e.1:=by
 intro j
 induction j using Nat.strongRecOn with
 | ind j ih =>
  intro e n m hj hn hm;obtain⟨n,rfl⟩:∃k,n=k+1:=⟨n-1,by omega⟩;obtain⟨m,rfl⟩:∃k,m=k+1:=⟨m-1,by omega⟩;unfold ZCx
  split
  ·rfl
  ·congr 1
   rw[ZHO h hj]
   show ZCx Q n e.2=ZCx Q m e.2
   cases j with
   | zero =>
    have:=h.hd;rw[hj] at this;cases this;obtain⟨n,rfl⟩:∃k,n=k+1:=⟨n-1,by omega⟩;obtain⟨m,rfl⟩:∃k,m=k+1:=⟨m-1,by omega⟩;unfold ZCx;simp
   | succ j =>
    obtain⟨k,e',h1,h2,h3⟩:=h.ld _ e hj (Nat.succ_pos _);rw[<-h3];exact ih k h1 h2 (by omega) (by omega)
def ZGq (nxt:Str->List Str)(a b:Str)(n:Nat):List Str :=
 if b∈(bfsQ nxt a n).map Prod.fst then (ZCx (bfsQ nxt a n) ((bfsQ nxt a n).length+1) b).reverse else []
theorem ZJO (nxt:Str->List Str)(a:Str)(i:Nat):∀j,i<=j->∃R,bfsQ nxt a j=bfsQ nxt a i++R
 | 0,h=>by
  obtain rfl:i=0:=by omega
  exact⟨[],by simp⟩
 | j+1,h=>by
  rcases Nat.lt_or_ge i (j+1) with q|q
  ·obtain⟨R,e⟩:=ZJO nxt a i j (by omega)
   conv=>enter [1,R,1];rw[bfsQ]
   split
   ·exact⟨R,e⟩
   ·rename_i x hx
    obtain⟨R2,e2⟩:=ZG6 x.1 (nxt x.1) (bfsQ nxt a j);exact⟨R++R2,by rw[ZS0,e2,e,List.append_assoc]⟩
  ·obtain rfl:i=j+1:=by omega
   exact⟨[],by simp⟩
theorem ZMz {nxt:Str->List Str}{a:Str}{i:Nat}(h:(bfsQ nxt a i).length<=i):∀j,i<=j->bfsQ nxt a j=bfsQ nxt a i
 | 0,hj=>by
  obtain rfl:i=0:=by omega
  rfl
 | j+1,hj=>by
  rcases Nat.lt_or_ge i (j+1) with q|q
  ·have e:=ZMz h j (by omega)
   rw[bfsQ,e,List.getElem?_eq_none (by omega)]
  ·obtain rfl:i=j+1:=by omega
   rfl
theorem ZOV {a:Str}{Q R:List QE}(h:QOK a Q)(h2:QOK a (Q++R)):∀{j:Nat}{e:QE}{n:Nat},Q[j]?=some e->ZCx (Q++R) n e.1=ZCx Q n e.1:=by
 intro j
 induction j using Nat.strongRecOn with
 | ind j ih =>
  intro e n hj
  cases n with
  | zero=>rfl
  | succ n =>
   have hlt:=(List.getElem?_eq_some_iff.1 hj).1;have hj2:(Q++R)[j]?=some e:=by rw[List.getElem?_append_left hlt];exact hj
   unfold ZCx
   split
   ·rfl
   ·congr 1
    rw[ZHO h hj,ZHO h2 hj2]
    show ZCx (Q++R) n e.2=ZCx Q n e.2
    cases j with
    | zero =>
     have:=h.hd;rw[hj] at this;cases this;cases n <;> simp[ZCx]
    | succ j =>
     obtain⟨k,e',h1,h2',h3⟩:=h.ld _ e hj (Nat.succ_pos _);rw[<-h3];exact ih k h1 h2'
theorem ZME {nxt:Str->List Str}{a b:Str}{i n:Nat}(hi:i<=n){j:Nat}{e:QE}(hj:(bfsQ nxt a i)[j]?=some e)(he:e.1=b){f:Nat}(hf:j+2<=f):ZGq nxt a b n=(ZCx (bfsQ nxt a i) f b).reverse:=by
 obtain⟨R,hR⟩:=ZJO nxt a i n hi;have h1:=QOK.bfs nxt a i;have h2:=QOK.bfs nxt a n;have hlt:=(List.getElem?_eq_some_iff.1 hj).1;have hj2:(bfsQ nxt a n)[j]?=some e:=by rw[hR,List.getElem?_append_left hlt];exact hj
 have hlen:(bfsQ nxt a i).length<=(bfsQ nxt a n).length:=by rw[hR,List.length_append];omega
 unfold ZGq;rw[if_pos (List.mem_map.2 ⟨e,List.mem_of_getElem? hj2,he⟩),<-he,ZOh h2 hj2 (m:=f) (by omega) hf];rw[hR] at h2 ⊢;rw[ZOV h1 h2 hj]
theorem ZOl {nxt:Str->List Str}{a b:Str}{i n:Nat}(hi:i<=n)(hend:(bfsQ nxt a i).length<=i)(hb:b ∉ (bfsQ nxt a i).map Prod.fst):ZGq nxt a b n=[]:=by
 unfold ZGq;rw[ZMz hend n hi,if_neg hb]
def dayT (x:WkR):Int×ZSA:=(x.day,x.tup)
def ltD (x y:WkR):Prop:=lexP ltI ltT (dayT x) (dayT y)
theorem ZE4:ZBY (lexP ltI ltT):=ZCN ZDM ZEh
theorem ZB1:ZBY ltD where
 irr:=fun a=>ZE4.irr _
 tr:=fun h1 h2=>ZE4.tr h1 h2
 tri:=fun a b=>by
  rcases ZE4.tri (dayT a) (dayT b) with h|h|h
  ·exact .inl h
  ·exact .inr (.inl (WkR.tup_inj (congrArg Prod.snd h)))
  ·exact .inr (.inr h)
instance ltDT:DecidableRel (lexP ltI ltT):=lexDec
instance:DecidableRel ltD:=fun x y=>inferInstanceAs (Decidable (lexP ltI ltT (dayT x) (dayT y)))
theorem ZRT {x y:WkR}:ltD x y ↔ x.day<y.day\/(x.day=y.day/\ltW x y):=Iff.rfl
def itmW (s:List WkR):List Str:=(ofK [1,5] s).map WkR.a
def plcB (t:Int)(k:Str)(x:WkR):Bool:=decide (x.kind=5/\x.a=k/\x.day<=t)
def plcW (s:List WkR)(t:Int)(k:Str):List WkR:=(ofK [1,5] s).filter (plcB t k)
def ZBn (s:List WkR)(t:Int)(k:Str):List WkR:=mrgU ltD (plcW s t k)
def ZK0 (l:List WkR):Str:=match l.getLast? with
 | none=>[]
 | some z=>((l.find? fun x=>decide (x.day=z.day)).map WkR.b).getD []
def ZC0 (s:List WkR)(t:Int)(k:Str):Str:=ZK0 (ZBn s t k)
theorem ZRZ (p:List WkR)(x:WkR)(t:Int)(k:Str):(p++[x]).filter (plcB t k)=p.filter (plcB t k)++if plcB t k x=true then [x] else []:=by
 rw[List.filter_append]
 congr 1
 by_cases q:plcB t k x=true <;> simp[q]
theorem ZG3 (s:List WkR)(t:Int)(k:Str):(plcW s t k).length<=s.length:=Nat.le_trans (List.length_filter_le _ _) (List.length_filter_le _ _)
theorem ZPK {s:List WkR}(h:s.Pairwise ltW)(t:Int)(k:Str):(plcW s t k).Pairwise ltW:=(h.filter _).filter _
theorem ZHZ {l:List WkR}(h:l.Nodup):(mrgU ltD l).length=l.length:=by
 refine Nat.le_antisymm (ZFU ZB1 l) (ZBH h fun x hx=>(ZBS ZB1).2 hx)
theorem ZHD {l:List WkR}(h:l.Pairwise ltW):l.Nodup:=h.imp fun {x y} (hxy:ltW x y) (e:x=y)=>by rw[e] at hxy;exact ZA0.irr _ hxy
theorem ZFW {s:List WkR}(h:s.Pairwise ltW)(t:Int)(k:Str):(ZBn s t k).length=(plcW s t k).length:=ZHZ (ZHD (ZPK h t k))
end Go.Dw
