/- C1: contracts of small functions of chapter 04. -/
import Derived.Test.YthlmgoefjmlndaaGreatDoorXG2
import Derived.Test.YthlmgoefjmlndaaGreatDoorXTy
set_option linter.unusedVariables false
set_option linter.unusedSimpArgs false
namespace Go.Dw
open Go Go.Dx Go.Proofs
set_option maxRecDepth 100000
theorem ZHs (a lo hi:Int)(h:Heap):Sv Tryz.prog 123 [i64 a,i64 lo,i64 hi] h (RetP fun v h'=>v=.bool (decide (a<lo\/hi<a))/\h'=h):=by
 refine ZAE Tryz.func123 rfl (by rw[Tryz.ntmps123];rfl) ?_;show Wc Tryz.prog ⟨123,15,none⟩ _ _ _ _ _;refine zz ?_;refine ZAP rfl rfl rfl rfl (ZAX rfl rfl) (fun h1=>?_) (fun h1=>?_)
 ·refine zz ?_
  exact ZAF (ZAG rfl ⟨by rw[decide_eq_true (.inl h1)];rfl,rfl⟩)
 ·refine zz ?_
  refine ZAP rfl rfl rfl rfl (ZCA rfl rfl) (fun h2=>?_) (fun h2=>?_)
  ·refine zz ?_
   exact ZAF (ZAG rfl ⟨by rw[decide_eq_true (.inr h2)];rfl,rfl⟩)
  ·refine zz ?_
   exact ZAF (ZAG rfl ⟨by rw[decide_eq_false (not_or.2 ⟨h1,h2⟩)];rfl,rfl⟩)
def ZKO {α:Type}(p:α->Bool)(l:List α):Int:=match l.findIdx? p with
 | some i=>i
 | none=>-1
theorem ZH0 {α:Type}(p:α->Bool)(l:List α):decide (0<=ZKO p l)=l.any p:=by
 unfold ZKO
 cases hq:l.findIdx? p with
 | none =>
  rw[List.findIdx?_eq_none_iff] at hq
  symm
  simp only[show ¬((0:Int) <= -1) by decide,decide_false];rw[List.any_eq_false];intro x hx;rw[hq x hx];simp
 | some i =>
  rw[List.findIdx?_eq_some_iff_getElem] at hq;obtain⟨h1,h2,_⟩:=hq;simp;exact⟨_,List.getElem_mem h1,h2⟩
def alN (n:Nat):Bool:=(decide (97<=n) && decide (n<=122)) || (decide (48<=n) && decide (n<=57))
def al (c:UInt8):Bool:=alN c.toNat
def tabC:List Value:=(List.range 256).map fun i=>.bool (alN i)
def ZSx:List UInt8:=[97,98,99,100,101,102,103,104,105,106,107,108,109,110,111,112,113,114,115,116,117,118,119,120,121,122,48,49,50,51,52,53,54,55,56,57]
theorem tab0:ZSG Tryz.prog []:=fun _ h=>nomatch h
theorem ZTD:Orc Tryz.prog 176 [str ZSx] (.tuple ⟨[.agg ⟨tabC⟩,.bool true]⟩):=ZNd (V:=VT) (n:=100000) (g0:=11) hmix tab0 rfl (by kernel_rfl) (by kernel_rfl)
theorem ZP0 (c:UInt8):nth tabC c.toNat=some (.bool (al c)):=by
 have:=c.toNat_lt;rw[ZAk];simp[tabC,al,this]
theorem ZHE (b:Nat)(c:UInt8)(h:Heap)(t:TypeId)(op:Bool)(hg:h.get b=some (.cells tabC t op)):Sv Tryz.prog 250 [.pointer (some ⟨b,0,none⟩),byt c] h (RetP fun v h'=>v=.bool (al c)/\h'=h):=by
 refine ZAE Tryz.func250 rfl (by rw[Tryz.ntmps250];rfl) ?_;show Wc Tryz.prog ⟨250,10,none⟩ _ _ _ _ _;have hlt:=c.toNat_lt;have hc:ZAb h b (0+c.toNat*1)=some (.bool (al c)):=ZAi hg (by rw[Nat.zero_add,Nat.mul_one];exact ZP0 c);refine zz ?_;refine ZAB rfl rfl rfl rfl (ZIC rfl) ?_;refine ZAB rfl rfl rfl rfl (ZNK (k:=c.toNat) Und.h Tsz.h rfl rfl rfl hlt) ?_;refine zz ?_;exact ZAF (ZAG rfl ⟨rfl,rfl⟩)
def ZFf (l:List UInt8):List UInt8:=(l.reverse.dropWhile al).reverse
def ZIw (l:List UInt8):List UInt8:=l.dropWhile al
theorem ZIG (l:List UInt8)(c:UInt8):ZFf (l++[c])=if al c then ZFf l else l++[c]:=by
 unfold ZFf;simp only[List.reverse_append,List.reverse_cons,List.reverse_nil,List.nil_append,List.singleton_append,List.dropWhile_cons]
 split <;> simp
theorem ZMd (l:List UInt8):ZIw (ZFf l)=[] ↔ l.all al=true:=by
 have hdw:∀(r:List UInt8),r.dropWhile al=[] ↔ ∀x∈r,al x=true:=by
  intro r
  induction r with
  | nil=>simp
  | cons x r ih =>
   rw[List.dropWhile_cons];cases hx:al x
   ·simp[hx]
   ·simp[hx,ih]
 unfold ZIw ZFf;rw[hdw]
 constructor
 ·intro h
  rw[List.all_eq_true];intro x hx;have h1:l.reverse=l.reverse.takeWhile al++l.reverse.dropWhile al:=(List.takeWhile_append_dropWhile).symm;have hx':x∈l.reverse:=List.mem_reverse.2 hx;rw[h1] at hx'
  rcases List.mem_append.1 hx' with g|g
  ·exact List.all_eq_true.1 (List.all_takeWhile (p:=al)) x g
  ·exact h x (List.mem_reverse.2 g)
 ·intro h x hx
  have:x∈l.reverse:=List.dropWhile_sublist _ |>.mem (List.mem_reverse.1 hx);exact List.all_eq_true.1 h x (List.mem_reverse.1 this)
theorem ZJn (b:Nat)(l:List UInt8)(h:Heap)(t:TypeId)(op:Bool)(hg:h.get b=some (.cells tabC t op))(hlen:l.length<9223372036854775808):Sv Tryz.prog 178 [str l,.pointer (some ⟨b,0,none⟩)] h (RetP fun v h'=>v=str (ZFf l)/\h'=h):=by
 refine ZAE Tryz.func178 rfl (by rw[Tryz.ntmps178];rfl) ?_;show Wc Tryz.prog ⟨178,22,none⟩ _ _ _ _ _;refine zz ?_;refine ZAO (fun (s:List UInt8) m ds h'=>ds=[]/\h'=h/\s.length<=l.length/\ZFf s=ZFf l/\AllK m [(0,str s),(1,.pointer (some ⟨b,0,none⟩))]) (fun s=>s.length) l ?_ ?_
 ·exact⟨rfl,rfl,Nat.le_refl _,rfl,rfl,rfl,trivial⟩
 rintro s m ds h' ⟨rfl,rfl,hle,htr,hall⟩;refine Wc.le ?_ (Le.kn hall);refine zz ?_;refine ZAP rfl rfl rfl rfl (ZCA rfl rfl) (fun h1=>?_) (fun h1=>?_)
 ·have hpos:0<s.length:=by simpa using h1
  have hs:s=s.take (s.length-1)++[s[s.length-1]]:=by
   conv=>lhs;rw[<-List.dropLast_concat_getLast (List.ne_nil_of_length_pos hpos)]
   rw[List.dropLast_eq_take,List.getLast_eq_getElem]
  refine zz ?_;refine ZAB rfl rfl rfl rfl (ZA4 (k:=s.length-1) Und.h rfl rfl (by omega) (by omega)) ?_;refine ZGK rfl rfl rfl rfl rfl Bod.h rfl rfl (ZHE b _ _ t op hg) (fun hb=>?_) (fun hb=>?_)
  ·refine zz ?_
   refine ZAB rfl rfl rfl rfl (ZE0 (k:=s.length-1) Und.h rfl rfl (by omega) (by omega)) ?_;refine zz ?_;refine⟨s.take (s.length-1),?_,rfl,rfl,?_,?_,rfl,rfl,trivial⟩
   ·simp;omega
   ·simp;omega
   ·rw[<-htr]
    conv=>rhs;rw[hs]
    rw[ZIG,if_pos hb]
  ·refine zz ?_
   refine ZAF (ZAG rfl ⟨?_,rfl⟩);have:ZFf s=s:=by
    conv=>lhs;rw[hs]
    rw[ZIG,hb,if_neg (by simp)];exact hs.symm
   rw[<-htr,this];rfl
 ·have h0:s=[]:=by
   cases s with
   | nil=>rfl
   | cons x s=>exfalso;apply h1;simp
  subst h0;refine zz ?_;refine ZAF (ZAG rfl ⟨?_,rfl⟩);rw[<-htr];rfl
theorem ZLQ (b:Nat)(l:List UInt8)(h:Heap)(t:TypeId)(op:Bool)(hg:h.get b=some (.cells tabC t op))(hlen:l.length<9223372036854775808):Sv Tryz.prog 177 [str l,.pointer (some ⟨b,0,none⟩)] h (RetP fun v h'=>v=str (ZIw l)/\h'=h):=by
 refine ZAE Tryz.func177 rfl (by rw[Tryz.ntmps177];rfl) ?_;show Wc Tryz.prog ⟨177,16,none⟩ _ _ _ _ _;refine zz ?_;refine ZAO (fun (s:List UInt8) m ds h'=>ds=[]/\h'=h/\s.length<=l.length/\ZIw s=ZIw l/\AllK m [(0,str s),(1,.pointer (some ⟨b,0,none⟩))]) (fun s=>s.length) l ?_ ?_
 ·exact⟨rfl,rfl,Nat.le_refl _,rfl,rfl,rfl,trivial⟩
 rintro s m ds h' ⟨rfl,rfl,hle,htr,hall⟩;refine Wc.le ?_ (Le.kn hall);refine zz ?_;refine ZAP rfl rfl rfl rfl (ZCA rfl rfl) (fun h1=>?_) (fun h1=>?_)
 ·have hpos:0<s.length:=by simpa using h1
  obtain⟨c,r,rfl⟩:∃c r,s=c::r:=by
   cases s with
   | nil=>simp at hpos
   | cons c r=>exact⟨c,r,rfl⟩
  refine zz ?_;refine ZAB rfl rfl rfl rfl (ZA4 (k:=0) Und.h rfl rfl rfl hpos) ?_;refine ZGK rfl rfl rfl rfl rfl Bod.h rfl rfl (ZHE b _ _ t op hg) (fun hb=>?_) (fun hb=>?_)
  ·refine zz ?_
   refine ZAB rfl rfl rfl rfl (ZEb (k:=1) Und.h rfl rfl rfl (by simp)) ?_;refine zz ?_;refine⟨r,?_,rfl,rfl,?_,?_,rfl,rfl,trivial⟩
   ·simp
   ·simp at hle;omega
   ·rw[<-htr]
    have hb':al c=true:=hb;simp[ZIw,List.dropWhile_cons,hb']
  ·refine zz ?_
   refine ZAF (ZAG rfl ⟨?_,rfl⟩);have hb':al c=false:=hb;have:ZIw (c::r)=c::r:=by simp[ZIw,List.dropWhile_cons,hb']
   rw[<-htr,this];rfl
 ·have h0:s=[]:=by
   cases s with
   | nil=>rfl
   | cons x s=>exfalso;apply h1;simp
  subst h0;refine zz ?_;refine ZAF (ZAG rfl ⟨?_,rfl⟩);rw[<-htr];rfl
theorem ZRs (l:List UInt8)(h:Heap)(hne:l≠[])(hlen:l.length<9223372036854775808):Sv Tryz.prog 127 [str l,str ZSx] h (RetP fun v h'=>v=str (ZIw (ZFf l))/\Ext h h'):=by
 refine ZDV fun hw=>?_;refine ZAE Tryz.func127 rfl (by rw[Tryz.ntmps127];rfl) ?_;show Wc Tryz.prog ⟨127,43,none⟩ _ _ _ _ _;refine zz ?_;refine ZAP rfl rfl rfl rfl (ZA6 rfl rfl) (fun h1=>?_) (fun h1=>?_)
 ·exact absurd h1 hne
 refine zz ?_;refine ZAP rfl rfl rfl rfl (ZA6 rfl rfl) (fun h2=>?_) (fun h2=>?_)
 ·exact absurd h2 (by decide)
 refine zz ?_;refine ZAP rfl rfl rfl rfl (ZA0 rfl rfl) (fun h3=>?_) (fun h3=>?_)
 ·exact absurd h3 (by decide)
 refine zz ?_;refine ZAT rfl rfl rfl rfl rfl Bod.h rfl rfl (ZS3 ZTD h).grows fun h1 hE1=>?_;refine zz ?_;refine ZDC rfl rfl Zr.h fun h2 hE2 hW2 hg2 hn2=>?_;refine ZA9 (r:=tabC) rfl Tsz.h rfl rfl hg2 (by kernel_rfl) (by kernel_rfl) (by kernel_rfl) fun h3 hU3=>?_;have hE3:Ext h h3:=hU3.ext (hE1.trans hE2) hw hE1.2.1;refine zz ?_;refine ZAT rfl rfl rfl rfl rfl Bod.h rfl rfl (ZJn _ l h3 262 false hU3.at' hlen).grows fun h4 hE4=>?_;have hl4:(ZFf l).length<=l.length:=by
  unfold ZFf;have:=(List.dropWhile_sublist al (l:=l.reverse)).length_le;simp at this ⊢;exact this
 refine ZAT rfl rfl rfl rfl rfl Bod.h rfl rfl (ZLQ _ (ZFf l) h4 262 false (hE4.get hU3.at') (by omega)).grows fun h5 hE5=>?_;refine zz ?_;exact ZAF (ZAG rfl ⟨rfl,(hE3.trans hE4).trans hE5⟩)
theorem ZQ2 (l:List UInt8)(h:Heap)(hlen:l.length<9223372036854775808):Sv Tryz.prog 126 [str l] h (RetP fun v h'=>v=.bool (decide (l=[]) || !l.all al)/\Ext h h'):=by
 refine ZAE Tryz.func126 rfl (by rw[Tryz.ntmps126];rfl) ?_;show Wc Tryz.prog ⟨126,10,none⟩ _ _ _ _ _;refine zz ?_;refine ZAP rfl rfl rfl rfl (ZA6 rfl rfl) (fun h1=>?_) (fun h1=>?_)
 ·refine zz ?_
  exact ZAF (ZAG rfl ⟨by rw[decide_eq_true h1];rfl,Ext.refl _⟩)
 ·refine zz ?_
  refine ZAT rfl rfl rfl rfl rfl Bod.h rfl rfl (ZRs l h h1 hlen) fun h2 hE2=>?_;refine ZAP rfl rfl rfl rfl (ZA2 rfl rfl) (fun h3=>?_) (fun h3=>?_)
  ·refine zz ?_
   refine ZAF (ZAG rfl ⟨?_,hE2⟩);have:l.all al=false:=by
    cases hq:l.all al with
    | false=>rfl
    | true=>exact absurd ((ZMd l).2 hq) h3
   rw[this];simp;rfl
  ·refine zz ?_
   refine ZAF (ZAG rfl ⟨?_,hE2⟩);have:l.all al=true:=(ZMd l).1 (Classical.not_not.1 h3);rw[this,decide_eq_false h1];rfl
def dash:UInt8:=45
def ZAp:List UInt8->List (List UInt8)
 | []=>[[]]
 | x::l=>if x=dash then []::ZAp l else match ZAp l with
  | []=>[[x]]
  | p::ps=>(x::p)::ps
theorem ZKP (l:List UInt8):ZAp l≠[]:=by
 cases l with
 | nil=>simp[ZAp]
 | cons x l =>
  unfold ZAp
  split
  ·simp
  ·split <;> simp
theorem ZH8 (l:List UInt8):(ZAp l).length=l.count dash+1:=by
 induction l with
 | nil=>rfl
 | cons x l ih =>
  unfold ZAp
  by_cases hx:x=dash
  ·simp[hx,ih]
  ·rw[if_neg hx,List.count_cons_of_ne hx]
   split
   ·rename_i hq;exact absurd hq (ZKP l)
   ·rename_i p ps hq;rw[hq] at ih;simpa using ih
theorem ZNV {p:List UInt8}(hp:dash ∉ p)(l:List UInt8):ZAp (p++dash::l)=p::ZAp l:=by
 induction p with
 | nil=>simp[ZAp]
 | cons x p ih =>
  simp only[List.mem_cons,not_or] at hp;rw[List.cons_append,ZAp,if_neg (fun e=>hp.1 e.symm),ih hp.2]
theorem ZKk {l:List UInt8}(h:dash ∉ l):ZAp l=[l]:=by
 induction l with
 | nil=>rfl
 | cons x l ih =>
  simp only[List.mem_cons,not_or] at h;rw[ZAp,if_neg (fun e=>h.1 e.symm),ih h.2]
theorem ZGX (l:List UInt8):(Lib.indexByte l dash = -1/\dash ∉ l)\/∃k:Nat,Lib.indexByte l dash=k/\k<l.length/\l=l.take k++dash::l.drop (k+1)/\dash ∉ l.take k:=by
 induction l with
 | nil=>exact .inl ⟨rfl,by simp⟩
 | cons x l ih =>
  unfold Lib.indexByte
  by_cases hx:x=dash
  ·refine .inr ⟨0,by simp[hx],by simp,by simp[hx],by simp⟩
  ·have hb:(x == dash)=false:=by simpa using hx
   rcases ih with ⟨h1,h2⟩|⟨k,h1,h2,h3,h4⟩
   ·exact .inl ⟨by simp[hb,h1],by simp[h2,Ne.symm hx]⟩
   ·refine .inr ⟨k+1,?_,by simpa using h2,?_,?_⟩
    ·rw[h1]
     have:((k:Int) == -1)=false:=by simp
     simp[hb,this]
    ·simp only[List.take_succ_cons,List.drop_succ_cons,List.cons_append]
     rw[<-h3]
    ·simp[h4,Ne.symm hx]
theorem ZFR {m:Mem}{h:Heap}{d:Option Tmp}{ty:TypeId}{pos:String}{af:Array Edge}{gu:Option (Nat×Bool)}{x y:Operand}{ts:Array TypeId}{l:List UInt8}{c:UInt8}(hx:opk h m x=some (str l))(hy:opk h m y=some (byt c)) :
  Aop Tryz.prog ⟨d,.call ⟨.value (.func 342),#[x,y],ts⟩,ty,pos,af,gu⟩ m h (i64 (Lib.indexByte l c)) h :=
 ZRL Tryz.func342 (by kernel_rfl) (by kernel_rfl) (by kernel_rfl) (by kernel_rfl) hx hy rfl rfl rfl fun w=>by
  rw[Lib.run_indexByteString];simp
theorem ZIY {m:Mem}{h:Heap}{d:Option Tmp}{ty:TypeId}{pos:String}{af:Array Edge}{gu:Option (Nat×Bool)}{x y:Operand}{ts:Array TypeId}{l:List UInt8}{c:UInt8}(hx:opk h m x=some (str l))(hy:opk h m y=some (byt c)) :
  Aop Tryz.prog ⟨d,.call ⟨.value (.func 295),#[x,y],ts⟩,ty,pos,af,gu⟩ m h (i64 (l.count c:Nat)) h :=
 ZRL Tryz.func295 (by kernel_rfl) (by kernel_rfl) (by kernel_rfl) (by kernel_rfl) hx hy rfl rfl rfl fun w=>by
  rw[Lib.run_countString];simp[Lib.countByte]
theorem ZNo (l:List UInt8)(c:UInt8)(h:Heap):Sv Tryz.prog 325 [str l,byt c] h (RetP fun v h'=>v=i64 (Lib.indexByte l c)/\h'=h):=by
 refine ZAE Tryz.func325 rfl (by rw[Tryz.ntmps325];rfl) ?_;show Wc Tryz.prog ⟨325,8,none⟩ _ _ _ _ _;refine zz ?_;refine ZMY (ZRE rfl (fun _ hq=>nomatch hq) (ZFR rfl rfl) ?_) rfl;refine zz ?_;exact ZAF (ZAG rfl ⟨rfl,rfl⟩)
theorem ZQx (l:List UInt8)(h:Heap):Sv Tryz.prog 249 [str l,str [45]] h (RetP fun v h'=>v=i64 (Lib.indexByte l dash)/\h'=h):=by
 have key:Sv Tryz.prog 296 [str l,str [45]] h (RetP fun v h'=>v=i64 (Lib.indexByte l dash)/\h'=h):=by
  refine ZAE Tryz.func296 rfl (by rw[Tryz.ntmps296];rfl) ?_;show Wc Tryz.prog ⟨296,143,none⟩ _ _ _ _ _;refine zz ?_;refine ZAP rfl rfl rfl rfl (ZA0 rfl rfl) (fun h1=>?_) (fun h1=>?_)
  ·exact absurd h1 (by decide)
  refine zz ?_;refine ZAP rfl rfl rfl rfl (ZA6 rfl rfl) (fun h2=>?_) (fun h2=>?_)
  ·refine zz ?_
   subst h2;exact ZAF (ZAG rfl ⟨rfl,rfl⟩)
  refine zz ?_;refine ZAP rfl rfl rfl rfl (ZA0 rfl rfl) (fun h3=>?_) (fun h3=>?_)
  ·refine zz ?_
   refine ZAB rfl rfl rfl rfl (ZA4 (k:=0) Und.h rfl rfl rfl (by decide)) ?_;refine ZAR rfl rfl rfl rfl rfl Bod.h rfl rfl (ZNo l dash h) ?_;refine zz ?_;exact ZAF (ZAG rfl ⟨rfl,rfl⟩)
  ·exact absurd rfl h3
 refine ZAE Tryz.func249 rfl (by rw[Tryz.ntmps249];rfl) ?_;show Wc Tryz.prog ⟨249,8,none⟩ _ _ _ _ _;refine zz ?_;refine ZAR rfl rfl rfl rfl rfl Bod.h rfl rfl key ?_;refine zz ?_;exact ZAF (ZAG rfl ⟨rfl,rfl⟩)
theorem ZPs (l:List UInt8)(h:Heap):Sv Tryz.prog 248 [str l,str [45]] h (RetP fun v h'=>v=i64 (l.count dash:Nat)/\h'=h):=by
 refine ZAE Tryz.func248 rfl (by rw[Tryz.ntmps248];rfl) ?_;show Wc Tryz.prog ⟨248,34,none⟩ _ _ _ _ _;refine zz ?_;refine ZAP rfl rfl rfl rfl (ZA0 rfl rfl) (fun h1=>?_) (fun h1=>?_)
 ·exact absurd h1 (by decide)
 refine zz ?_;refine ZAP rfl rfl rfl rfl (ZA0 rfl rfl) (fun h2=>?_) (fun h2=>?_)
 ·refine zz ?_
  refine ZAB rfl rfl rfl rfl (ZA4 (k:=0) Und.h rfl rfl rfl (by decide)) ?_;refine ZMY (ZRE rfl (fun _ hq=>nomatch hq) (ZIY (c:=dash) rfl rfl) ?_) rfl;refine zz ?_;exact ZAF (ZAG rfl ⟨rfl,rfl⟩)
 ·exact absurd rfl h2
theorem ZRr (n:Nat)(z:Value):rep n [z]=List.replicate n z:=by
 induction n with
 | zero=>rfl
 | succ n ih=>rw[List.replicate_succ,<-ih];rfl
theorem ZLZ (l:List UInt8)(h:Heap)(hlen:l.length<1000000) :
  Sv Tryz.prog 173 [str l,str [45],i64 0,i64 (-1)] h (RetP fun v h'=>∃a cap,v=.slice a (ZAp l).length cap/\ZMI h' a (ZAp l)/\Ext h h'):=by
 have hcl:l.count dash<=l.length:=List.count_le_length;refine ZDV fun hw=>?_;refine ZAE Tryz.func173 rfl (by rw[Tryz.ntmps173];rfl) ?_;show Wc Tryz.prog ⟨173,66,none⟩ _ _ _ _ _;refine zz ?_;refine ZAP rfl rfl rfl rfl (ZA0 rfl rfl) (fun h1=>?_) (fun h1=>?_)
 ·exact absurd h1 (by decide)
 refine zz ?_;refine ZAP rfl rfl rfl rfl (ZA6 rfl rfl) (fun h2=>?_) (fun h2=>?_)
 ·exact absurd h2 (by decide)
 refine zz ?_;refine ZAP rfl rfl rfl rfl (ZAX rfl rfl) (fun h3=>?_) (fun h3=>?_)
 ·refine zz ?_
  refine ZAR rfl rfl rfl rfl rfl Bod.h rfl rfl (ZPs l h) ?_;refine zz ?_;refine ZAB rfl rfl rfl rfl (ZTH rfl rfl) ?_;have hmin:min ((l.count dash:Int)+1) ((l.length:Int)+1)=(l.count dash:Int)+1:=by omega
  rw[hmin];refine zz ?_;refine ZAB rfl rfl rfl rfl (ZLD (k:=l.count dash+1) Und.h (inferInstance:Elm _ _ _ _) Zr.h rfl rfl (by simp) (by omega) (by omega)) ?_;generalize hh1:h.add _=h1;have hg1:h1.get h.nx=some (.cells (List.replicate (l.count dash+1) (str [])) 9 false):=by
   rw[<-hh1,<-ZRr];exact Heap.get_add_same
  have hE1:Ext h h1:=by rw[<-hh1];exact Ext.add hw _
  clear hh1;generalize hb:h.nx=b at *;refine zz ?_
  refine ZAO (fun (st:List (List UInt8)×List UInt8) m ds h2=>ds=[]/\Ext h h2/\st.1.length+st.2.count dash=l.count dash/\ZAp l=st.1++ZAp st.2/\st.2.length<=l.length ∧
    h2.get b=some (.cells (st.1.map str++List.replicate (l.count dash+1-st.1.length) (str [])) 9 false) ∧
    AllK m [(0,str st.2),(1,str [45]),(2,i64 0),(3,i64 (l.count dash:Nat)),(9,.slice (some ⟨b,0,none⟩) (l.count dash+1) (l.count dash+1)),(10,i64 st.1.length)])
   (fun st=>st.2.length) ([],l) ?_ ?_
  ·refine⟨rfl,hE1,by simp,rfl,Nat.le_refl _,by simpa using hg1,rfl,rfl,rfl,?_,rfl,rfl,trivial⟩
   show some (Value.int .i64 ((l.count dash:Int)+1-1))=_
   simp
  rintro⟨dn,s⟩ m ds h2 ⟨rfl,hE2,hcnt,hsp,hsl,hg2,hall⟩;simp only at hcnt hsp hsl hg2 hall;have key:∀m',AllK m' [(9,.slice (some ⟨b,0,none⟩) (l.count dash+1) (l.count dash+1)),(10,i64 dn.length),(0,str s)]->dash ∉ s->True:=fun _ _ _=>trivial;refine Wc.le ?_ (Le.kn hall);refine zz ?_;refine ZAP rfl rfl rfl rfl (ZAX rfl rfl) (fun h4=>?_) (fun h4=>?_)
  ·have hdn:dn.length<l.count dash:=by simpa using h4
   refine zz ?_;refine ZAR rfl rfl rfl rfl rfl Bod.h rfl rfl (ZQx s h2) ?_
   rcases ZGX s with ⟨g1,g2⟩|⟨k,g1,g2,g3,g4⟩
   ·exfalso
    have:=List.count_eq_zero.2 g2;omega
   rw[g1];refine zz ?_;refine ZAP rfl rfl rfl rfl (ZAX rfl rfl) (fun h5=>?_) (fun h5=>?_)
   ·exact absurd h5 (by omega)
   refine zz ?_;refine ZAB rfl rfl rfl rfl (ZE0 (k:=k) Und.h rfl rfl (by omega) (by omega)) ?_;refine ZAB rfl rfl rfl rfl (ZAL (k:=dn.length) Und.h Tsz.h rfl rfl rfl (by omega)) ?_;refine ZA9 (r:=(dn++[s.take k]).map str++List.replicate (l.count dash+1-(dn.length+1)) (str [])) rfl Tsz.h rfl rfl hg2 rfl rfl ?_ fun h3 hU3=>?_
   ·show lay _ (0+dn.length*1) [str (s.take k)]=_
    rw[ZEZ (by simp;omega)]
    congr 1
    have:l.count dash+1-dn.length=(l.count dash+1-(dn.length+1))+1:=by omega
    rw[this,List.replicate_succ,Nat.zero_add,Nat.mul_one,List.set_append_right _ _ (by simp)];simp
   refine zz ?_;refine ZAB rfl rfl rfl rfl (ZSZ rfl rfl (by simp;omega) (by simp;omega)) ?_;refine ZAB rfl rfl rfl rfl (ZEb (k:=k+1) Und.h rfl rfl (by simp) (by omega)) ?_;refine zz ?_;have hs':ZAp s=s.take k::ZAp (s.drop (k+1)):=by
    conv=>lhs;rw[g3]
    exact ZNV g4 _
   refine⟨(dn++[s.take k],s.drop (k+1)),?_,rfl,?_,?_,?_,?_,?_,rfl,rfl,rfl,rfl,rfl,?_,trivial⟩
   ·simp;omega
   ·exact hU3.ext hE2 hw (by omega)
   ·have hc:s.count dash=1+(s.drop (k+1)).count dash:=by
     conv=>lhs;rw[g3]
     rw[List.count_append,List.count_eq_zero.2 g4,List.count_cons_self];omega
    simp only[List.length_append,List.length_singleton];omega
   ·simp only[List.append_assoc,List.singleton_append];rw[hsp,hs']
   ·simp;omega
   ·rw[hU3.at'];simp
   ·show some (Value.int .i64 ((dn.length:Int)+1))=_
    simp
  ·have hdn:dn.length=l.count dash:=by omega
   have hc0:s.count dash=0:=by omega
   have hs':ZAp s=[s]:=ZKk (List.count_eq_zero.1 hc0);rw[hs'] at hsp;refine zz ?_;refine ZAB rfl rfl rfl rfl (ZAL (k:=dn.length) Und.h Tsz.h rfl rfl rfl (by omega)) ?_;refine ZA9 (r:=(ZAp l).map str) rfl Tsz.h rfl rfl hg2 rfl rfl ?_ fun h3 hU3=>?_
   ·show lay _ (0+dn.length*1) [str s]=_
    rw[ZEZ (by simp;omega)]
    congr 1
    have:l.count dash+1-dn.length=1:=by omega
    rw[this,Nat.zero_add,Nat.mul_one,List.set_append_right _ _ (by simp),hsp];simp
   refine zz ?_;have hsl':=ZH8 l;refine ZAB rfl rfl rfl rfl (ZEw (k:=(ZAp l).length) Und.h Tsz.h rfl rfl (by rw[hsl'];omega) (by omega)) ?_;refine zz ?_;refine ZAF (ZAG rfl ⟨_,_,rfl,fun i hi=>⟨b,0,none,rfl,?_⟩,hU3.ext hE2 hw (by omega)⟩);refine ZAi hU3.at' ?_;rw[ZAk];simp[hi]
 ·exact absurd (by decide) h3
theorem ZQn (l:List UInt8)(h:Heap)(hlen:l.length<1000000) :
  Sv Tryz.prog 125 [str l,str [45]] h (RetP fun v h'=>∃a cap,v=.slice a (ZAp l).length cap/\ZMI h' a (ZAp l)/\Ext h h'):=by
 refine ZAE Tryz.func125 rfl (by rw[Tryz.ntmps125];rfl) ?_;show Wc Tryz.prog ⟨125,8,none⟩ _ _ _ _ _;refine zz ?_;refine ZAJ rfl rfl rfl rfl rfl Bod.h rfl rfl (ZLZ l h hlen) ?_;rintro _ h1 ⟨a,cap,rfl,h2,h3⟩;refine zz ?_;exact ZAF (ZAG rfl ⟨a,cap,rfl,h2,h3⟩)
theorem ZIO {a:Option Addr}{cap:Nat}{l:List (List UInt8)}{h:Heap}{g:FuncId}{first capv:List Value}{p:List UInt8->Bool}(hI:ZMI h a l)(hbd:ZAr Tryz.prog g=true)
  (hp:∀h1,Ext h h1->∀x∈l,Sv Tryz.prog g (first++([str x]++capv)) h1 (RetP fun v h'=>v=.bool (p x)/\Ext h1 h')) (hlen:l.length<9223372036854775808) :
  Sv Tryz.prog 172 [.slice a l.length cap,.func (.func g) ⟨first⟩ ⟨capv⟩] h (RetP fun v h'=>v=i64 (ZKO p l)/\Ext h h'):=by
 refine ZAE Tryz.func172 rfl (by rw[Tryz.ntmps172];rfl) ?_;show Wc Tryz.prog ⟨172,19,none⟩ _ _ _ _ _;refine zz ?_
 refine ZAO (fun (k:Nat) m ds h'=>ds=[]/\Ext h h'/\k<=l.length/\(∀j (hj:j<l.length),j<k->p l[j]=false)/\AllK m [(0,.slice a l.length cap),(1,.func (.func g) ⟨first⟩ ⟨capv⟩),(7,i64 l.length),(8,i64 k)])
  (fun k=>l.length-k) 0 ?_ ?_
 ·exact⟨rfl,Ext.refl _,Nat.zero_le _,(fun _ _ hj=>by omega),rfl,rfl,rfl,rfl,trivial⟩
 rintro k m ds h' ⟨rfl,hE,hk,hno,hall⟩;refine Wc.le ?_ (Le.kn hall);refine zz ?_;refine ZAP rfl rfl rfl rfl (ZAX rfl rfl) (fun h1=>?_) (fun h1=>?_)
 ·have hk':k<l.length:=by simpa using h1
  obtain⟨b,o,oa,rfl,hc⟩:=hI k hk';refine zz ?_;refine ZAB rfl rfl rfl rfl (A_ix Und.h Tsz.h rfl rfl) ?_;refine zz ?_;refine ZQs rfl rfl rfl rfl rfl hbd rfl rfl (hp h' hE _ (List.getElem_mem hk')) (fun hb h2 hE2=>?_) (fun hb h2 hE2=>?_)
  ·refine zz ?_
   refine ZAF (ZAG rfl ⟨?_,hE.trans hE2⟩);have:l.findIdx? p=some k:=by
    rw[List.findIdx?_eq_some_iff_getElem];exact⟨hk',hb,fun j hj=>by simp[hno j (by omega) hj]⟩
   simp[ZKO,this];rfl
  ·refine zz ?_
   refine⟨k+1,?_,rfl,hE.trans hE2,hk',?_,rfl,rfl,rfl,rfl,trivial⟩
   ·show l.length-(k+1)<l.length-k;omega
   ·intro j hj hlt
    rcases Nat.lt_or_ge j k with g|g
    ·exact hno j hj g
    ·have:j=k:=by omega
     subst this;exact hb
 ·have hk2:k=l.length:=by omega
  subst hk2;refine zz ?_;refine ZAF (ZAG rfl ⟨?_,hE⟩);have:l.findIdx? p=none:=by
   rw[List.findIdx?_eq_none_iff];intro x hx;obtain⟨j,hj,rfl⟩:=List.getElem_of_mem hx;exact hno j hj hj
  simp[ZKO,this];rfl
theorem ZF9 {a:Option Addr}{cap:Nat}{l:List (List UInt8)}{h:Heap}{g:FuncId}{first capv:List Value}{p:List UInt8->Bool}(hI:ZMI h a l)(hbd:ZAr Tryz.prog g=true)
  (hp:∀h1,Ext h h1->∀x∈l,Sv Tryz.prog g (first++([str x]++capv)) h1 (RetP fun v h'=>v=.bool (p x)/\Ext h1 h')) (hlen:l.length<9223372036854775808) :
  Sv Tryz.prog 124 [.slice a l.length cap,.func (.func g) ⟨first⟩ ⟨capv⟩] h (RetP fun v h'=>v=.bool (l.any p)/\Ext h h'):=by
 refine ZAE Tryz.func124 rfl (by rw[Tryz.ntmps124];rfl) ?_;show Wc Tryz.prog ⟨124,9,none⟩ _ _ _ _ _;refine zz ?_;refine ZAT rfl rfl rfl rfl rfl Bod.h rfl rfl (ZIO hI hbd hp hlen) fun h1 hE1=>?_;refine zz ?_;refine ZAP rfl rfl rfl rfl (ZJv rfl rfl) (fun hb=>?_) (fun hb=>?_)
 ·refine zz ?_
  exact ZAF (ZAG rfl ⟨by rw[<-ZH0,decide_eq_true hb];rfl,hE1⟩)
 ·refine zz ?_
  exact ZAF (ZAG rfl ⟨by rw[<-ZH0,decide_eq_false hb];rfl,hE1⟩)
theorem ZNQ:∀{l p:List UInt8},p∈ZAp l->p.length<=l.length:=by
 intro l
 induction l with
 | nil=>intro p hp;simp[ZAp] at hp;simp[hp]
 | cons x l ih =>
  intro p hp;unfold ZAp at hp
  split at hp
  ·rcases List.mem_cons.1 hp with rfl|g
   ·simp
   ·have:=ih g;simp;omega
  ·split at hp
   ·rename_i hq;exact absurd hq (ZKP l)
   ·rename_i q qs hq
    rcases List.mem_cons.1 hp with rfl|g
    ·have:=ih (p:=q) (by rw[hq];exact List.mem_cons_self);simpa using this
    ·have:=ih (p:=p) (by rw[hq];exact List.mem_cons_of_mem _ g);simp;omega
def letB (c:UInt8):Bool:=decide (97<=c.toNat/\c.toNat<=122)
def fstL:List UInt8->Bool
 | []=>false
 | c::_=>letB c
def digB (c:UInt8):Bool:=decide (48<=c.toNat/\c.toNat<=57)
def ZAy (l:List UInt8):Bool:=decide (1<=l.length/\l.length<=24) && fstL l && (ZAp l).all fun p=>!(decide (p=[]) || !p.all al)
theorem ZCO (l:List UInt8)(h:Heap)(hlen:l.length<9223372036854775808):Sv Tryz.prog 77 [str l] h (RetP fun v h'=>v=.bool (ZAy l)/\Ext h h'):=by
 refine ZAE Tryz.func77 rfl (by rw[Tryz.ntmps77];rfl) ?_;show Wc Tryz.prog ⟨77,16,none⟩ _ _ _ _ _;refine zz ?_;refine ZGK rfl rfl rfl rfl rfl Bod.h rfl rfl (ZHs _ _ _ _) (fun h1=>?_) (fun h1=>?_)
 ·refine zz ?_
  refine ZAF (ZAG rfl ⟨?_,Ext.refl _⟩);have:¬(1<=l.length/\l.length<=24):=by have:=of_decide_eq_true h1;omega
  simp only[ZAy,decide_eq_false this,Bool.false_and];rfl
 have h1':1<=l.length/\l.length<=24:=by have:=of_decide_eq_false h1;omega
 obtain⟨c,r,rfl⟩:∃c r,l=c::r:=by
  cases l with
  | nil=>simp at h1'
  | cons c r=>exact⟨c,r,rfl⟩
 refine zz ?_;refine ZAB rfl rfl rfl rfl (ZA4 (k:=0) Und.h rfl rfl rfl (by simp)) ?_;refine ZAB rfl rfl rfl rfl (ZO3 Und.h Und.h rfl) ?_;refine ZGK rfl rfl rfl rfl rfl Bod.h rfl rfl (ZHs _ _ _ _) (fun h2=>?_) (fun h2=>?_)
 ·refine zz ?_
  refine ZAF (ZAG rfl ⟨?_,Ext.refl _⟩);have h2':=of_decide_eq_true h2;have:letB c=false:=decide_eq_false (by simp at h2';omega);simp only[ZAy,fstL,this,Bool.and_false,Bool.false_and];rfl
 have hlet:letB c=true:=decide_eq_true (by have:=of_decide_eq_false h2;simp at this;omega);refine zz ?_;refine ZAJ rfl rfl rfl rfl rfl Bod.h rfl rfl (ZQn _ _ (by omega)) ?_;rintro _ h3 ⟨a,cap,rfl,hst,hE3⟩;have hpl:∀p∈ZAp (c::r),p.length<9223372036854775808:=by
  intro p hp;have:=ZNQ hp;omega
 refine ZAJ rfl rfl rfl rfl rfl Bod.h rfl rfl (ZF9 (first:=[]) (capv:=[]) (p:=fun p=>decide (p=[]) || !p.all al) hst Bod.h (fun h1 _ x hx=>ZQ2 x h1 (hpl x hx)) (by rw[ZH8];have:=List.count_le_length (a:=dash) (l:=c::r);omega)) ?_;rintro _ h4 ⟨rfl,hE4⟩;refine zz ?_;refine ZAF (ZAG rfl ⟨?_,hE3.trans hE4⟩);have:ZAy (c::r)=!(ZAp (c::r)).any fun p=>decide (p=[]) || !p.all al:=by
  simp only[ZAy,fstL,decide_eq_true h1',hlet,Bool.true_and];rw[List.all_eq_not_any_not];simp
 rw[this];rfl
def okAt (l:List UInt8)(i:Nat):Bool:=match l[i]? with
 | none=>true
 | some c=>letB c || digB c || (decide (c=dash) && !(decide (l[i-1]?=some dash)) && !decide (i+1=l.length))
def nameR (l:List UInt8):Bool:=decide (1<=l.length/\l.length<=24) && fstL l && (List.range l.length).all (okAt l)
theorem ZQJ {a b:UInt8}:(a.toNat:Int)=(b.toNat:Int) ↔ a=b:=by
 constructor
 ·intro h;exact UInt8.toNat_inj.1 (by omega)
 ·rintro rfl;rfl
end Go.Dw
