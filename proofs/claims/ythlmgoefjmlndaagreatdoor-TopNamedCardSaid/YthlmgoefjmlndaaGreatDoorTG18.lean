/- F3: contracts: the string that stands for others (find). -/
import Derived.Test.YthlmgoefjmlndaaGreatDoorTG2
import Derived.Test.YthlmgoefjmlndaaGreatDoorTG16
import Derived.Test.YthlmgoefjmlndaaGreatDoorTG17
set_option linter.unusedVariables false
set_option linter.unusedSimpArgs false
namespace Go.Dw
open Go Go.Dx Go.Proofs
set_option maxRecDepth 100000
def ZIt (gl:List (Str×Value))(M:Str->Option Str):Prop:=Once gl/\∀k,lkp k gl=(M k).map str
theorem ZIt.set {gl:List (Str×Value)}{M:Str->Option Str}(h:ZIt gl M)(k v:Str):ZIt (setK k (str v) gl) (fun k'=>if k'=k then some v else M k'):=by
 refine⟨h.1.set,fun k'=>?_⟩;rw[ZB0,h.2]
 by_cases e:k'=k <;> simp[e]
theorem ZUT {h:Heap}{c7 c8 bl:Nat}{gl:List (Str×Value)}{M:Str->Option Str}{N:List Str}{r:Str->Str}(hg7:h.get c7=some (.cells [.map (some bl)] 135 false))(hg8:h.get c8=some (.cells [.func (.func 62) ⟨[]⟩ ⟨[.pointer (some ⟨c7,0,none⟩),.pointer (some ⟨c8,0,none⟩)]⟩] 136 false))(hm:MapB strK h bl gl)(hL:ZIt gl M)(hU:UF N M r) :
  ∀n k,(N.filter fun z=>decide (ltB z k)).length<=n->Sv Tryz.prog 62 [str k,.pointer (some ⟨c7,0,none⟩),.pointer (some ⟨c8,0,none⟩)] h (RetP fun v h'=>v=str (r k)/\h'=h):=by
 intro n
 induction n with
 | zero =>
  intro k hn;have hM:M k=none\/M k=some k:=by
   cases hM:M k with
   | none=>exact .inl rfl
   | some u =>
    by_cases e:u=k
    ·exact .inr (by rw[e])
    ·obtain⟨q1,q2,-⟩:=hU.up k u hM e
     have:u∈N.filter fun z=>decide (ltB z k):=List.mem_filter.2 ⟨q2,decide_eq_true q1⟩;have:=List.length_pos_of_mem this;omega
  refine ZAF Tryz.func62 rfl (by rw[Tryz.ntmps62];rfl) ?_;show Wc Tryz.prog ⟨62,23,none⟩ _ _ _ _ _;refine zy ?_
  rcases hM with hM|hM
  ·have hl:=hL.2 k
   rw[hM] at hl;refine zD (ZAX strK (k:=k) (v:=str []) (q:=false) Und.h Zr.h rfl hm rfl (by rw[hl];rfl) (by rw[hl];rfl)) ?_;exact ZAB (ZAC rfl ⟨by rw[hU.no k hM];rfl,rfl⟩)
  ·have hl:=hL.2 k
   rw[hM] at hl;refine zD (ZAX strK (k:=k) (v:=str k) (q:=true) Und.h Zr.h rfl hm rfl (by rw[hl];rfl) (by rw[hl];rfl)) ?_;refine zD (A_ff (fun q=>q rfl) (ZBF rfl rfl)) ?_;exact ZAB (ZAC rfl ⟨by rw[hU.same k hM];rfl,rfl⟩)
 | succ n ih =>
  intro k hn;refine ZAF Tryz.func62 rfl (by rw[Tryz.ntmps62];rfl) ?_;show Wc Tryz.prog ⟨62,23,none⟩ _ _ _ _ _;refine zy ?_;have hl:=hL.2 k
  cases hM:M k with
  | none =>
   rw[hM] at hl;refine zD (ZAX strK (k:=k) (v:=str []) (q:=false) Und.h Zr.h rfl hm rfl (by rw[hl];rfl) (by rw[hl];rfl)) ?_;exact ZAB (ZAC rfl ⟨by rw[hU.no k hM];rfl,rfl⟩)
  | some u =>
   rw[hM] at hl;refine zD (ZAX strK (k:=k) (v:=str u) (q:=true) Und.h Zr.h rfl hm rfl (by rw[hl];rfl) (by rw[hl];rfl)) ?_
   by_cases e:u=k
   ·subst e
    refine zD (A_ff (fun q=>q rfl) (ZBF rfl rfl)) ?_;exact ZAB (ZAC rfl ⟨by rw[hU.same u hM];rfl,rfl⟩)
   obtain⟨q1,q2,q3⟩:=hU.up k u hM e;have hlt:=ZQc q1 q2;refine zD (A_tt e (ZBF rfl rfl)) ?_;refine zV (ih u (by omega)) ?_;exact ZAB (ZAC rfl ⟨by rw[q3];rfl,rfl⟩)
noncomputable def ZBs (c7 c8 bl:Nat)(gl:List (Str×Value)):List It:=[mapI strK bl gl,ceI c7 [.map (some bl)] 135 false,ceI c8 [.func (.func 62) ⟨[]⟩ ⟨[.pointer (some ⟨c7,0,none⟩),.pointer (some ⟨c8,0,none⟩)]⟩] 136 false]
theorem ZSZ {h0 h:Heap}{c7 c8 bl:Nat}{gl:List (Str×Value)}{M:Str->Option Str}{N:List Str}{r:Str->Str}{I:List It}(hO:Own h0 h (ZBs c7 c8 bl gl++I))(hL:ZIt gl M)(hU:UF N M r)(k:Str) :
  Sv Tryz.prog 62 [str k,.pointer (some ⟨c7,0,none⟩),.pointer (some ⟨c8,0,none⟩)] h (RetP fun v h'=>v=str (r k)/\h'=h):=ZUT hO.p2 hO.p3 hO.p1 hL hU _ k (Nat.le_refl _)
abbrev WkM:=Value×List Str×Value×List Str×Str
def rowM (a:WkM):List Value:=[a.1,a.2.2.1,str a.2.2.2.2]
def spM (a:WkM):WkO:=(a.2.1,a.2.2.2.1,a.2.2.2.2)
def nmI (h0:Heap)(a:WkM):It:=slI h0 a.1 9 1 (a.2.1.map str) a.2.1.length
def itI' (h0:Heap)(a:WkM):It:=slI h0 a.2.2.1 9 1 (a.2.2.2.1.map str) a.2.2.2.1.length
def slM (h0:Heap)(a:WkM):List It:=[nmI h0 a,itI' h0 a]
def topM (h0:Heap)(va:Value)(A:List WkM):It:=slI h0 va 41 3 (A.flatMap rowM) A.length
def allX (h0:Heap)(va:Value)(A:List WkM):List It:=topM h0 va A::A.flatMap (slM h0)
theorem ZJv (A:List WkM):(A.flatMap rowM).length=A.length*3:=ZB7 (enc:=rowM) (k:=3) (fun _=>rfl) A
theorem ZFN {α:Type}{enc:α->List Value}{k:Nat}(hk:∀x,(enc x).length=k){t:Nat}(ht:t<k){v:Value}:∀{l:List α}{j:Nat}{a a':α},l[j]?=some a->enc a'=(enc a).set t v->(l.flatMap enc).set (j*k+t) v=(l.set j a').flatMap enc
 | [],j,_,_,h,_=>by simp at h
 | x::l,0,a,a',h,e=>by
  have:x=a:=by simpa using h
  subst this;rw[List.flatMap_cons,List.set_cons_zero,List.flatMap_cons,Nat.zero_mul,Nat.zero_add,List.set_append_left _ _ (by rw[hk];exact ht),e]
 | x::l,j+1,a,a',h,e=>by
  have h':l[j]?=some a:=by simpa using h
  rw[List.flatMap_cons,List.set_cons_succ,List.flatMap_cons,List.set_append_right _ _ (by rw[hk,Nat.succ_mul];omega),hk]
  congr 1
  have:=ZFN hk ht h' e;rw[<-this]
  congr 1
  rw[Nat.succ_mul];omega
theorem ZSj {A:List WkM}{j:Nat}{a:WkM}(h:A[j]?=some a):∃B C,A=B++a::C/\∀a',A.set j a'=B++a'::C:=by
 obtain⟨hj,e⟩:=List.getElem?_eq_some_iff.1 h;refine⟨A.take j,A.drop (j+1),?_,fun a'=>?_⟩
 ·rw[<-e,<-List.drop_eq_getElem_cons hj,List.take_append_drop]
 ·rw[List.set_eq_take_append_cons_drop,if_pos hj]
theorem ZHP (h0:Heap)(va:Value){A:List WkM}{j:Nat}{a:WkM}(h:A[j]?=some a):∃R,(∀h1 I,Own h0 h1 (I++allX h0 va A)->Own h0 h1 (nmI h0 a::itI' h0 a::topM h0 va A::(I++R))) ∧
  (∀h1 I a' va',Own h0 h1 (nmI h0 a'::itI' h0 a'::topM h0 va' (A.set j a')::(I++R))->Own h0 h1 (I++allX h0 va' (A.set j a'))):=by
 obtain⟨B,C,e1,e2⟩:=ZSj h;have hfl:∀a',(B++a'::C).flatMap (slM h0)=B.flatMap (slM h0)++(slM h0 a'++C.flatMap (slM h0)):=fun a'=>by rw[List.flatMap_append,List.flatMap_cons]
 have hperm:∀(I:List It) (a':WkM) (x:It),(I++x::(B.flatMap (slM h0)++(slM h0 a'++C.flatMap (slM h0)))).Perm (nmI h0 a'::itI' h0 a'::x::(I++(B.flatMap (slM h0)++C.flatMap (slM h0)))):=fun I a' x=>by
  refine List.perm_middle.trans ?_;have h1:(B.flatMap (slM h0)++(slM h0 a'++C.flatMap (slM h0))).Perm (slM h0 a'++(B.flatMap (slM h0)++C.flatMap (slM h0))):=List.perm_append_comm_assoc _ _ _;have h2:(I++(B.flatMap (slM h0)++(slM h0 a'++C.flatMap (slM h0)))).Perm (slM h0 a'++(I++(B.flatMap (slM h0)++C.flatMap (slM h0)))):=(List.Perm.append_left I h1).trans (List.perm_append_comm_assoc _ _ _);exact (List.Perm.cons x h2).trans (((List.Perm.swap _ _ _).trans (List.Perm.cons _ (List.Perm.swap _ _ _))))
 refine⟨B.flatMap (slM h0)++C.flatMap (slM h0),fun h1 I hO=>?_,fun h1 I a' va' hO=>?_⟩
 ·have:allX h0 va A=topM h0 va A::(B.flatMap (slM h0)++(slM h0 a++C.flatMap (slM h0))):=by
   unfold allX
   conv=>lhs;rw[show A.flatMap (slM h0)=(B++a::C).flatMap (slM h0) by rw[<-e1]]
   rw[hfl]
  rw[this] at hO;exact hO.perm (hperm I a _)
 ·have:allX h0 va' (A.set j a')=topM h0 va' (A.set j a')::(B.flatMap (slM h0)++(slM h0 a'++C.flatMap (slM h0))):=by
   unfold allX
   conv=>lhs;rw[show (A.set j a').flatMap (slM h0)=(B++a'::C).flatMap (slM h0) by rw[<-e2]]
   rw[hfl]
  rw[this];exact hO.perm (hperm I a' _).symm
theorem ZRM {h0 h1:Heap}{va:Value}{A:List WkM}{t:Str}{I:List It}(hO:Own h0 h1 (topM h0 va (A++[(.slice none 0 0,[],.slice none 0 0,[],t)])::(I++A.flatMap (slM h0)))):Own h0 h1 (I++allX h0 va (A++[(.slice none 0 0,[],.slice none 0 0,[],t)])):=by
 have h2:=(hO.nilSl 9 1).nilSl 9 1;have h3:Own h0 h1 ([nmI h0 (.slice none 0 0,[],.slice none 0 0,[],t),itI' h0 (.slice none 0 0,[],.slice none 0 0,[],t)]++(topM h0 va (A++[(.slice none 0 0,[],.slice none 0 0,[],t)])::(I++A.flatMap (slM h0)))):=h2;refine h3.perm ?_;unfold allX;rw[List.flatMap_append];refine (List.perm_append_comm (l₁:=[_,_])).trans ?_;refine List.Perm.trans ?_ List.perm_middle.symm;refine List.Perm.cons _ ?_;rw[<-List.append_assoc];exact List.Perm.refl _
theorem Own.setRow {h0 h h':Heap}{b n sz:Nat}{sp:Option Nat}{el:TypeId}{cs cs':List Value}{op:Bool}{l:List It}(hO:Own h0 h (slI h0 (.slice (some ⟨b,0,sp⟩) n n) el sz cs n::l))(hw:WF h)(he0:Ext h0 h)(hw0:WF h0)(hU:Upd h b (.cells cs' el op) h')(hl:cs'.length=cs.length):Own h0 h' (slI h0 (.slice (some ⟨b,0,sp⟩) n n) el sz cs' n::l)/\Ext h0 h':=by
 have hX:Exb (slI h0 (.slice (some ⟨b,0,sp⟩) n n) el sz cs n).S h h':=(Exb.ofUpd hU).mono fun c hc=>by show some b=some c;rw[hc]
 refine⟨hO.put hw he0.2.1 hX ?_ fun c hc=>.inl hc,hO.grows hX he0 hw0⟩
 rcases (show ZAD h0 h (.slice (some ⟨b,0,sp⟩) n n) el sz cs n from hO.p1) with ⟨e,_⟩|⟨b',sp',op',e,h2,h3,h4,h5⟩
 ·cases e
 ·cases e
  exact .inr ⟨b,sp,op,rfl,hU.at',by rw[hl];exact h3,h4,h5⟩
def AtOK (g:List (Str×Value))(R:List Str):Prop:=Once g/\∀q,lkp q g=if q∈R then some (i64 (R.idxOf q:Nat)) else none
theorem AtOK.nil:AtOK [] []:=⟨by simp[Once],fun _=>rfl⟩
theorem AtOK.add {g:List (Str×Value)}{R:List Str}(h:AtOK g R){q:Str}(hq:q ∉ R):AtOK (setK q (i64 (R.length:Nat)) g) (R++[q]):=by
 refine⟨h.1.set,fun z=>?_⟩;rw[ZB0,h.2]
 by_cases e:z=q
 ·subst e
  rw[if_pos rfl,if_pos (by simp),List.idxOf_append,if_neg hq];simp
 ·rw[if_neg e]
  by_cases hz:z∈R
  ·rw[if_pos hz,if_pos (List.mem_append_left _ hz),List.idxOf_append,if_pos hz]
  ·rw[if_neg hz,if_neg (by simp[hz,e])]
theorem ZDU {h0 h:Heap}{b:Nat}{sp:Option Nat}{n:Nat}{A:List WkM}{j t:Nat}{a:WkM}{v:Value}{l:List It}(hO:Own h0 h (topM h0 (.slice (some ⟨b,0,sp⟩) n n) A::l))(hj:A[j]?=some a)(ht:t<3)(hv:(rowM a)[t]?=some v):∃op,h.get b=some (.cells (A.flatMap rowM) 41 op)/\ZAZ h b (0+j*3+t)=some v:=by
 rcases (show ZAD h0 h (.slice (some ⟨b,0,sp⟩) n n) 41 3 (A.flatMap rowM) A.length from hO.p1) with ⟨e,_⟩|⟨b',sp',op',e,h2,h3,h4,h5⟩
 ·cases e
 ·cases e
  refine⟨op',h2,ZAl h2 ?_⟩;obtain⟨hjl,hja⟩:=List.getElem?_eq_some_iff.1 hj;rw[ZAw,Nat.zero_add,ZIM (enc:=rowM) (k:=3) (fun _=>rfl) hjl ht,hja];exact hv
theorem ZP3 {r r':Str->Str}:∀{p:List WkR},(∀x∈p,r x.a=r' x.a)->titS r p=titS r' p:=by
 intro p
 induction p using ZFV with
 | h0=>intro _;rfl
 | h1 p x ih =>
  intro h
  funext k
  rw[ZFX,ZFX,ih fun y hy=>h y (List.mem_append_left _ hy),h x (by simp)]
theorem ZKx {s:List WkR}(hg:∀x∈s,ZA8 x=0){k:Str}(hk:k∈nodW s):k.length<=25:=by
 have hn:∀{z:Str},ZBA z=true->z.length<=24:=fun {z} h=>by
  unfold ZBA at h;simp only[Bool.and_eq_true,decide_eq_true_eq] at h;exact h.1.1.2
 rcases ZHc hg hk with h|⟨x,hx,-,rfl⟩
 ·have:=hn h;omega
 ·have:=hn (ZCs (hg x hx)).2.1
  rw[List.length_cons];omega
def ZFe (h:Heap)(row:List Value)(w:WkO):Prop:=∃an cn ai ci,row=[.slice an w.1.length cn,.slice ai w.2.1.length ci,str w.2.2]/\ZA3 str h an w.1/\ZA3 str h ai w.2.1
theorem ZFe.ext {h h':Heap}(hE:Ext h h'){row:List Value}{w:WkO}(hw:ZFe h row w):ZFe h' row w:=by
 obtain⟨an,cn,ai,ci,e,h1,h2⟩:=hw;exact⟨an,cn,ai,ci,e,h1.ext hE,h2.ext hE⟩
def ZDJ (h:Heap)(v:Value)(W:List WkO):Prop:=∃a c,v=.slice a W.length c/\ZAM 3 ZFe h a W
theorem ZSf {h0 h:Heap}{va:Value}{A:List WkM}(hO:Own h0 h (allX h0 va A)):ZDJ h va (A.map spM):=by
 have hF:ZAD h0 h va 41 3 (A.flatMap rowM) A.length:=hO.p1;obtain⟨a,e,hS,-⟩:=ZAD.rowsAt (enc:=rowM) (k:=3) (fun _=>rfl) hF rfl;refine⟨a,A.length,by rw[List.length_map];exact e,fun i hi=>?_⟩;have hi':i<A.length:=by simpa using hi
 obtain⟨b,o,oa,e1,row,hr,hx⟩:=hS.1 i hi';have hx2:row=rowM A[i]:=hx;refine⟨b,o,oa,e1,row,hr,?_⟩;rw[hx2,List.getElem_map];have hm:=List.getElem_mem hi';generalize A[i]=w at *;have h1:ZAD h0 h w.1 9 1 (w.2.1.map str) w.2.1.length:=hO.has (nmI h0 w) (List.mem_cons_of_mem _ (List.mem_flatMap.2 ⟨w,hm,by simp[slM]⟩));have h2:ZAD h0 h w.2.2.1 9 1 (w.2.2.2.1.map str) w.2.2.2.1.length:=hO.has (itI' h0 w) (List.mem_cons_of_mem _ (List.mem_flatMap.2 ⟨w,hm,by simp[slM]⟩));obtain⟨a1,e1',-,l1⟩:=ZAD.list h1;obtain⟨a2,e2',-,l2⟩:=ZAD.list h2;exact⟨a1,_,a2,_,by unfold rowM;rw[e1',e2'];rfl,l1,l2⟩
abbrev xF43:List Nat:=[0,1,2,3,4,5,6,7,8]
structure ZEv (s:List WkR)(gl:List (Str×Value))(r:Str->Str):Prop where
 uf:∃M,ZIt gl M/\UF (nodW s) M r
 conn:∀k,Conn s k (r k)
theorem ZEv.init (s:List WkR):ZEv s [] id:=⟨⟨_,⟨by simp[Once],fun _=>rfl⟩,UF.init _⟩,fun k=>.refl k⟩
theorem ZEv.uni {s:List WkR}{gl:List (Str×Value)}{r:Str->Str}(h:ZEv s gl r){x y:Str}(hx:x∈nodW s)(hy:y∈nxtW s x):ZEv s (setK (maxB (r x) (r y)) (str (minB (r x) (r y))) gl) (uniR r x y):=by
 obtain⟨⟨M,h1,h2⟩,h3⟩:=h;exact⟨⟨_,h1.set _ _,h2.uni hx (ZEa hy)⟩,ZQF h3 (.step (.refl _) hy)⟩
theorem ZEv.find {s:List WkR}{h0 h:Heap}{c7 c8 bl:Nat}{gl:List (Str×Value)}{r:Str->Str}{I:List It}(hL:ZEv s gl r)(hO:Own h0 h (ZBs c7 c8 bl gl++I))(k:Str) :
  Sv Tryz.prog 62 [str k,.pointer (some ⟨c7,0,none⟩),.pointer (some ⟨c8,0,none⟩)] h (RetP fun v h'=>v=str (r k)/\h'=h):=by
 obtain⟨⟨M,h1,h2⟩,-⟩:=hL;exact ZSZ hO h1 h2 k
theorem Own.mid1 {h0 h:Heap}{A B:List It}{x:It}(hO:Own h0 h (A++x::B)):Own h0 h (x::(A++B)):=hO.perm List.perm_middle
theorem Own.mid2 {h0 h:Heap}{A B:List It}{x:It}(hO:Own h0 h (x::(A++B))):Own h0 h (A++x::B):=hO.perm List.perm_middle.symm
def ZKl (r:Str->Str)(pre:List WkR)(gt:List (Str×Value)):Prop:=Once gt/\∀k,lkp k gt=(titS r pre k).map encW
theorem ZKl.skip {r:Str->Str}{pre:List WkR}{gt:List (Str×Value)}(h:ZKl r pre gt){x y:WkR}(hy:titS r pre (r x.a)=some y)(hd:¬y.day<x.day):ZKl r (pre++[x]) gt:=by
 refine⟨h.1,fun k=>?_⟩;rw[h.2,ZFX]
 by_cases e:r x.a=k
 ·rw[if_pos e,<-e,hy];simp[titN,hd]
 ·rw[if_neg e]
theorem ZKl.put {r:Str->Str}{pre:List WkR}{gt:List (Str×Value)}(h:ZKl r pre gt){x:WkR}(hy:∀y,titS r pre (r x.a)=some y->y.day<x.day):ZKl r (pre++[x]) (setK (r x.a) (encW x) gt):=by
 refine⟨h.1.set,fun k=>?_⟩;rw[ZB0,h.2,ZFX]
 by_cases e:k=r x.a
 ·rw[if_pos e,if_pos e.symm,e]
  cases hq:titS r pre (r x.a) with
  | none=>rfl
  | some y=>simp[titN,hy y hq]
 ·rw[if_neg e,if_neg (Ne.symm e)]
theorem ZI4 {s:List WkR}{V:List Str}(hn:V.Nodup)(hm:∀k,k∈V ↔ k∈nodW s):(V.reverse.mergeSort fun x y=>decide (x<=y))=ZAN s:=by
 have hperm:=List.mergeSort_perm V.reverse (fun x y=>decide (x<=y))
 have hsort:=List.pairwise_mergeSort (le:=fun (x y:Str)=>decide (x<=y)) (fun a b c h1 h2=>decide_eq_true (List.le_trans (of_decide_eq_true h1) (of_decide_eq_true h2))) (fun a b=>by
  simp only[Bool.or_eq_true,decide_eq_true_eq];exact List.le_total a b) V.reverse
 have hnd:(V.reverse.mergeSort fun x y=>decide (x<=y)).Nodup:=hperm.symm.nodup ((List.reverse_perm V).symm.nodup hn);refine ZP0 ZAR ?_ fun e=>by rw[hperm.mem_iff,List.mem_reverse,hm]
 refine (hsort.and hnd).imp fun {a b} h=>?_;have h1:a<=b:=of_decide_eq_true h.1
 rcases ZAR.tri a b with g|g|g
 ·exact g
 ·exact absurd g h.2
 ·exact absurd g (List.not_lt.2 h1)
theorem ZFs {k:Str}(h:ZBA k=true):ZBY k=false:=by
 unfold ZBY;rw[decide_eq_false_iff_not];intro e;unfold ZBA at h;simp only[Bool.and_eq_true] at h;have h1:=h.1.2
 cases k with
 | nil=>cases e
 | cons c r =>
  have:c=35:=by simpa using e
  subst this;have h2:letB 35=true:=h1;exact absurd h2 (by decide)
theorem ZQj {s:List WkR}(hg:∀x∈s,ZA8 x=0){k:Str}(hk:k∈nodW s)(hh:ZBY k=true):repW s k∈ZB6 (repW s) (ZAN s):=by
 rcases ZHc hg hk with h|⟨x,hx,hx1,rfl⟩
 ·rw[ZFs h] at hh;cases hh
 ·have hn:ZBA x.b=true:=(ZCs (hg x hx)).2.2.1 (by omega) (by omega)
  have hnx:x.b∈nxtW s (35::x.a):=ZFf.2 (.inl (by
   unfold edgW;exact List.mem_append_left _ (List.mem_map.2 ⟨x,ZES.2 ⟨hx,by simp[hx1]⟩,rfl⟩)))
  have hb:=ZEa hnx;rw[(ZNN hk hb).2 (.step (.refl _) hnx)];unfold ZB6;rw[ZFP];exact List.mem_map.2 ⟨x.b,List.mem_filter.2 ⟨(ZCU ZAR).2 hb,by rw[ZFs hn];rfl⟩,rfl⟩
def ZTe (l:List WkR)(v:Value)(h':Heap):Prop:=((chkS l).2≠0/\v=.tuple ⟨[.slice none 0 0,i64 (chkS l).2]⟩)\/((chkS l).2=0/\∃va,v=.tuple ⟨[va,i64 0]⟩/\ZDJ h' va (ZBM (ZAd (mrgU ltW l))))
theorem Own.frame {h0 h h':Heap}{l:List It}(hO:Own h0 h l)(hk:∀c o,h0.nx<=c->h.get c=some o->h'.get c=some o):Own h0 h' l :=
 ⟨fun x hx=>x.loc (fun c o hc hg=>hk c o (hO.lo x hx c hc) hg) (hO.has x hx),hO.lo,hO.ap⟩
def ZKK (l:List WkR)(h0:Heap)(v:Value)(h':Heap):Prop:=((chkS l).2≠0/\v=.tuple ⟨[.slice none 0 0,i64 (chkS l).2]⟩)\/((chkS l).2=0/\∃va,v=.tuple ⟨[va,i64 0]⟩/\∀h'':Heap,(∀c o,h0.nx<=c->h'.get c=some o->h''.get c=some o)->ZDJ h'' va (ZBM (ZAd (mrgU ltW l))))
set_option maxHeartbeats 8000000 in
theorem ZQs {ad:Option Addr}{cap:Nat}{l:List WkR}{h:Heap}(hR:SrcK rowW 6 h ad l)(hn:ad=none->l=[]/\cap=0)(hf:∀x∈l,x.Fit)(hlen:Len l)(hL:WkLib h) :
  Sv Tryz.prog 26 [.slice ad l.length cap] h (RetP fun v h'=>ZKK l h v h'/\Ext h h'):=by
 have hop:=ZJ3 hR hn hf hlen hL;unfold ZOz at hop;have hcl:=ZGI (l:=l);have hcg:=ZFW (l:=l);unfold ZKK;generalize chkS l=ck at *;refine ZAF Tryz.func26 rfl (by rw[Tryz.ntmps26];rfl) ?_;show Wc Tryz.prog ⟨26,203,none⟩ _ _ _ _ _;refine zy ?_;refine ZA0 rfl rfl rfl rfl rfl Bod.h rfl rfl hop ?_;rintro _ h1 ⟨⟨hc,rfl⟩|⟨hc,aS,af,rfl,hS,-⟩,hE1⟩
 ·refine zy ?_
  refine zD (A_tt hc (ZAo rfl rfl)) ?_;exact ZAB (ZAC rfl ⟨.inl ⟨hc,rfl⟩,hE1⟩)
 have hl2:=hcl hc;replace hcg:=hcg hc;have hsl:(ZAd (mrgU ltW l)).length<=200:=Nat.le_trans (ZJs l) hl2;have hsg:∀x∈ZAd (mrgU ltW l),ZA8 x=0:=fun x hx=>hcg x (ZGL hx);have hsf:∀x∈ZAd (mrgU ltW l),x.Fit:=fun x hx=>hf x (ZGL hx);clear hcl hcg hop;generalize ZAd (mrgU ltW l)=S at *;generalize ZCB (mrgU ltW l)=F at *;have hnl:(nodW S).length<=10000:=Nat.le_trans (ZL9 S) (by omega);have hne:=ZPT hsg;refine zy ?_;refine zD (A_ff (fun q=>q rfl) (ZAo rfl rfl)) ?_;refine ZBt fun hw=>?_;refine zR (ZTt hS hsf hsl) ?_;rintro _ h2 ⟨hE2,bm,rfl,gw,D,hO2,hon,hk1,hk2⟩;refine ZBt fun hW2=>?_;generalize hDL:D.map (fun d=>liI d.2.1 (nxtW S d.1))=DL at hO2
 have hls:∀k∈nodW S,∃a c,lkp k gw=some (.slice a (nxtW S k).length c)/\liI a (nxtW S k)∈DL:=fun k hk=>by
  obtain⟨d,hd,rfl,e⟩:=hk2 k hk;exact⟨d.2.1,d.2.2,e,by rw[<-hDL];exact List.mem_map.2 ⟨d,hd,rfl⟩⟩
 clear hk2 hDL;refine zy ?_;refine ZCL rfl rfl fun h3 hE3 hW3 hg3 hn3=>?_;have hO3:=hO2.newMap (K:=strK) hW2 hE2.2.1 hE3 hg3 (Nat.le_refl _);replace hE3:=hE2.trans hE3;generalize h2.nx=bl at hO3 hg3 ⊢;refine zy ?_;refine ZAK rfl rfl Zr.h Tsz.h rfl (fun _=>rfl) rfl rfl rfl fun h4 hE4 hW4 hg4 hn4=>?_;have hO4:=hO3.newCe hW3 hE3.2.1 hE4 hg4 (Nat.le_refl _);replace hE4:=hE3.trans hE4;generalize h3.nx=c7 at hO4 hg4 ⊢;refine zy ?_;refine ZBV rfl rfl Zr.h fun h5 hE5 hW5 hg5 hn5=>?_;have hO5:=hO4.newCe hW4 hE4.2.1 hE5 hg5 (Nat.le_refl _);replace hE5:=hE4.trans hE5;generalize h4.nx=c8 at hO5 hg5 ⊢;refine zy ?_
 refine ZLV hw hE5 rfl Tsz.h rfl rfl hO5 rfl rfl rfl fun h6 hW6 hO6 hE6=>?_
 have hO6':Own h1 h6 (mapI strK bm gw::(ZBs c7 c8 bl []++DL)):=hO6.perm (by
  refine (List.Perm.trans ?_ (List.perm_middle (l₁:=ZBs c7 c8 bl []) (a:=mapI strK bm gw)));exact List.Perm.append_right (mapI strK bm gw::DL) (List.reverse_perm [mapI strK bl [],ceI c7 [.map (some bl)] 135 false,ceI c8 _ 136 false] |>.trans (List.Perm.refl _)))
 clear hO6 hO5 hO4 hO3 hE5 hE4 hE3 hg3 hg4 hg5 hn3 hn4 hn5;refine zy ?_;refine ZC5 strK hE6 rfl rfl Und.h rfl hO6' fun h7 hW7 hO7 hE7=>?_;replace hE7:=hE6.trans hE7;generalize h6.nx=rr at hO7 ⊢;clear hO6' hE6;have hO7':Own h1 h7 (ZBs c7 c8 bl []++(itI strK bm rr gw []::DL)):=hO7.mid2;clear hO7;refine zy ?_;refine ZAO (fun (st:List (Str×Value)×(Str->Str)×List Str) m ds h'=>ds=[]/\Ext h1 h'/\Own h1 h' (ZBs c7 c8 bl st.1++(itI strK bm rr gw st.2.2::DL))/\ZEv S st.1 st.2.1/\(∀k∈st.2.2,∀z∈nxtW S k,st.2.1 z=st.2.1 k)/\st.2.2.Nodup/\(∀k∈st.2.2,k∈nodW S)/\AllK m [(4,.slice aS S.length S.length),(6,.map (some bm)),(7,.pointer (some ⟨c7,0,none⟩)),(8,.pointer (some ⟨c8,0,none⟩)),(49,.pointer (some ⟨rr,0,none⟩)),(2,.slice none 0 0)]) (fun st=>(nodW S).length-st.2.2.length) ([],id,[]) ?_ ?_
 ·exact⟨rfl,hE7,hO7',ZEv.init S,(fun _ h=>nomatch h),.nil,(fun _ h=>nomatch h),rfl,rfl,rfl,rfl,rfl,rfl,trivial⟩
 clear hO7' hE7 hW7;rintro⟨gl,r,V⟩ m ds h8 ⟨rfl,hE8,hO8,hLd,hV1,hVn,hV2,hall⟩;refine Wc.le ?_ (Le.kn hall);clear hall;simp only at hO8 hLd hV1 hVn hV2 ⊢;refine zy ?_;refine ZDv strK hw hE8 rfl rfl rfl hon hO8.mid1 (fun hdone=>?_) fun k v h9 hlkv hnk hC hO9 hE9=>?_;rotate_left
 ·have hkn:k∈nodW S:=by
   have:=hk1 k;rw[hlkv] at this;exact of_decide_eq_true this.symm
  obtain⟨ax,cx,hlx,hmem⟩:=hls k hkn;rw[hlkv] at hlx;cases hlx;have hO9':Own h1 h9 (ZBs c7 c8 bl gl++(itI strK bm rr gw (k::V)::DL)):=hO9.mid2;have hLi:ZA3 str h9 ax (nxtW S k):=hO9'.has _ (List.mem_append_right _ (List.mem_cons_of_mem _ hmem));have hnx0:(nxtW S k).length<=10000:=by
   have:=ZB1 (ZI8 S k) (m:=nodW S) fun z hz=>ZJS hz;omega
  have hlt:V.length+1<=(nodW S).length:=by
   have:=ZB1 (List.nodup_cons.2 ⟨hnk,hVn⟩) (m:=nodW S) fun k' hk'=>by
    rcases List.mem_cons.1 hk' with rfl|hk'
    ·exact hkn
    ·exact hV2 k' hk'
   simpa using this
  refine zy ?_;refine ZFv strK rfl rfl rfl hC ?_;refine zy ?_;refine ZAO (fun (st:Nat×List (Str×Value)×(Str->Str)) m ds h'=>ds=[]/\Ext h1 h'/\st.1<=(nxtW S k).length/\Own h1 h' (ZBs c7 c8 bl st.2.1++(itI strK bm rr gw (k::V)::DL))/\ZEv S st.2.1 st.2.2/\(∀k∈V,∀z∈nxtW S k,st.2.2 z=st.2.2 k)/\(∀z∈(nxtW S k).take st.1,st.2.2 z=st.2.2 k)/\AllK m [(4,.slice aS S.length S.length),(6,.map (some bm)),(7,.pointer (some ⟨c7,0,none⟩)),(8,.pointer (some ⟨c8,0,none⟩)),(49,.pointer (some ⟨rr,0,none⟩)),(2,.slice none 0 0),(9,str k),(55,.slice ax (nxtW S k).length cx),(56,i64 (nxtW S k).length),(57,i64 (st.1:Nat))]) (fun st=>(nxtW S k).length-st.1) (0,gl,r) ?_ ?_
  ·exact⟨rfl,hE9,Nat.zero_le _,hO9',hLd,hV1,by simp,rfl,rfl,rfl,rfl,rfl,rfl,rfl,rfl,rfl,rfl,trivial⟩
  clear hO9' hO9 hE9 hC hLd hV1 hO8 hE8 hLi;rintro⟨j,gl,r⟩ m ds h10 ⟨rfl,hE10,hj,hO10,hLd,hV1,hT,hall⟩;refine Wc.le ?_ (Le.kn hall);clear hall;simp only at hj hO10 hLd hV1 hT ⊢;have hLi:ZA3 str h10 ax (nxtW S k):=hO10.has _ (List.mem_append_right _ (List.mem_cons_of_mem _ hmem));refine zy ?_;refine zC (ZAf rfl rfl) (fun hjl=>?_) (fun hjl=>?_);rotate_left
  ·have:j=(nxtW S k).length:=by omega
   subst this;rw[List.take_length] at hT;refine zy ?_;refine⟨(gl,r,k::V),(by show (nodW S).length-(V.length+1)<(nodW S).length-V.length;omega),rfl,hE10,hO10,hLd,fun k' hk'=>?_,List.nodup_cons.2 ⟨hnk,hVn⟩,fun k' hk'=>?_,rfl,rfl,rfl,rfl,rfl,rfl,trivial⟩
   ·rcases List.mem_cons.1 hk' with rfl|hk'
    ·exact hT
    ·exact hV1 k' hk'
   ·rcases List.mem_cons.1 hk' with rfl|hk'
    ·exact hkn
    ·exact hV2 k' hk'
  have hj':j<(nxtW S k).length:=by omega
  have htk:(nxtW S k).take (j+1)=(nxtW S k).take j++[(nxtW S k)[j]]:=by rw[List.take_add_one,List.getElem?_eq_getElem hj'];rfl
  obtain⟨bx,ox,oax,rfl,hcx⟩:=hLi j hj';have hzm:=List.getElem_mem hj';generalize (nxtW S k)[j]=z at *;have hg8:h10.get c8=some (.cells [.func (.func 62) ⟨[]⟩ ⟨[.pointer (some ⟨c7,0,none⟩),.pointer (some ⟨c8,0,none⟩)]⟩] 136 false):=hO10.p3;have hg7:h10.get c7=some (.cells [.map (some bl)] 135 false):=hO10.p2;have hfk:=hLd.find hO10 k;have hfz:=hLd.find hO10 z;refine zy ?_;refine zD (A_ix Und.h Tsz.h rfl rfl) ?_;refine ZAJ hmix [0,0,3,0,0,31,63,127] [0,1,3,4] (some 2) [([],(some 5)),([],(some 6)),([],(some 7)),([],none)] (by kernel_rfl) (by kernel_rfl) ?_;refine z_l ?_;refine z_m ?_;refine z_l ?_;refine z_m ?_
  refine ZAH [0,1] (by kernel_rfl) rfl (ZAA rfl) rfl nb (kF (kF (dF (dF nF)))) (ZAT rfl rfl rfl rfl rfl Bod.h hfk ?_);refine ZAH [0,1,2,3,4] (by kernel_rfl) rfl (by refine t_m 4 ?_;refine t_l 3 ?_;exact ZAA rfl) rfl nb (dF (dF nF)) (ZAT rfl rfl rfl rfl rfl Bod.h hfz ?_);refine ZAH [0,1,2,3,4,5] (by kernel_rfl) rfl (ZAA rfl) rfl nb nF (ZBW rfl rfl (ZAS rfl) ?_);refine ZAH [0,1,2,3,4,5,6] (by kernel_rfl) rfl (ZAA rfl) rfl nb nF (ZBW rfl rfl (ZAS rfl) ?_);refine ZAP (ZAA rfl) nb' ?_;refine zy ?_;refine zD (ZTT rfl rfl) ?_;refine zD (ZTO rfl rfl) ?_;refine ZAx strK (k:=maxB (r k) (r z)) (v:=str (minB (r k) (r z))) hw hE10 rfl Und.h rfl hO10 rfl rfl fun h11 hW11 hO11 hE11=>?_
  refine zy ?_;obtain⟨⟨M,hM1,hM2⟩,hcn⟩:=id hLd;refine⟨(j+1,_,uniR r k z),(by show (nxtW S k).length-(j+1)<(nxtW S k).length-j;omega),rfl,hE11,hj',hO11,hLd.uni hkn hzm,fun k' hk' z' hz'=>ZLk (hV1 k' hk' z' hz'),fun z' hz'=>?_,rfl,rfl,rfl,rfl,rfl,rfl,rfl,rfl,rfl,rfl,trivial⟩;simp only[htk,List.mem_append,List.mem_singleton] at hz'
  rcases hz' with hz'|rfl
  ·exact ZLk (hT z' hz')
  ·exact (ZSl hM2.idem k z').symm
 have hrep:∀k∈nodW S,r k=repW S k:=fun k hk=>by
  obtain⟨⟨M,hM1,hM2⟩,hcn⟩:=id hLd;refine hM2.done hcn (fun k' hk'=>hV1 k' ?_) hk;obtain⟨ax,cx,hlx,-⟩:=hls k' hk';exact hdone k' _ hlx
 have hOw:Own h1 h8 (ZBs c7 c8 bl gl++(mapI strK bm gw::DL)):=(hO8.mid1.as (y:=mapI strK bm gw) (fun hp=>ZG8.mapB strK hp) fun c hc=>.inl hc).mid2;clear hO8 hV1 hVn hV2 hdone;refine zy ?_;refine ZBt fun hW8=>?_;refine ZCL rfl rfl fun h9 hE9 hW9 hg9 hn9=>?_;have hO9:=hOw.newMap (K:=strK) hW8 hE8.2.1 hE9 hg9 (Nat.le_refl _);replace hE9:=hE8.trans hE9;generalize h8.nx=bt at hO9 hg9 ⊢;refine zy ?_;refine ZAK rfl rfl Zr.h Tsz.h rfl (fun _=>rfl) rfl rfl rfl fun h10 hE10 hW10 hg10 hn10=>?_;have hO10:=hO9.newCe hW9 hE9.2.1 hE10 hg10 (Nat.le_refl _);replace hE10:=hE9.trans hE10;generalize h9.nx=c15 at hO10 hg10 ⊢
 refine zy ?_;refine ZCA rfl rfl Und.h Tsz.h Zr.h rfl rfl rfl rfl rfl fun h11 hE11 hW11 hg11 hn11=>?_;have hO11:=hO10.newCe hW10 hE10.2.1 hE11 hg11 (Nat.le_refl _);replace hE11:=hE10.trans hE11;generalize h10.nx=bk at hO11 hg11 ⊢;refine zy ?_;refine ZA0 rfl rfl rfl rfl rfl Bod.h rfl rfl ZPI ?_;rintro _ h12 ⟨c1,c2,rfl,hE12,hI12⟩;have hO12':=hO11.join hW11 hE11.2.1 hE12 hI12;replace hE12:=hE11.trans hE12;have hO12'':Own h1 h12 ([ceI c1 [.slice aS S.length S.length] 127 false,ceI c2 [.slice (some ⟨bk,0,none⟩) 1 1] 39 false,ceI bk [i64 4] 3 false,ceI c15 [.map (some bt)] 138 false,mapI strK bt []]++(ZBs c7 c8 bl gl++(mapI strK bm gw::DL))):=hO12'
 have hO12:Own h1 h12 (ZBs c7 c8 bl gl++([ceI c1 [.slice aS S.length S.length] 127 false,ceI c2 [.slice (some ⟨bk,0,none⟩) 1 1] 39 false,ceI bk [i64 4] 3 false,ceI c15 [.map (some bt)] 138 false,mapI strK bt []]++(mapI strK bm gw::DL))):=hO12''.perm (List.perm_append_comm_assoc [ceI c1 [.slice aS S.length S.length] 127 false,ceI c2 [.slice (some ⟨bk,0,none⟩) 1 1] 39 false,ceI bk [i64 4] 3 false,ceI c15 [.map (some bt)] 138 false,mapI strK bt []] (ZBs c7 c8 bl gl) (mapI strK bm gw::DL));clear hO12' hO12'' hI12 hO11 hO10 hO9 hOw hE8 hE9 hE10 hE11 hg9 hg10 hg11 hn9 hn10 hn11;refine zy ?_;refine ZDZ (q:=16) (X:=fun gt=>ZBs c7 c8 bl gl++([ceI c1 [.slice aS S.length S.length] 127 false,ceI c2 [.slice (some ⟨bk,0,none⟩) 1 1] 39 false,ceI bk [i64 4] 3 false,ceI c15 [.map (some bt)] 138 false,mapI strK bt gt]++(mapI strK bm gw::DL))) (ok:=fun pre gt=>ZKl r pre gt) (L:=ofK [4] S) (enc:=encW) (cs:=rowW) (el:=44) (op:=false) (s0:=[]) rfl rfl Bod.h rfl hw hE12 hO12 ⟨by simp[Once],fun _=>rfl⟩ (ZND (c1:=c1) (c2:=c2) (bk:=bk) (cap:=S.length) (sp:=none) (op:=false) (ks:=[4]) hS (show S.length<_ by omega) (show (1:Nat)<_ by decide) fun st=>⟨by simp,by simp,by simp⟩) (fun l x h'=>?_) (fun l bn pre x post gt h6 R hsp hok hO hE6=>?_) (fun gt h13 hok13 hO13 hE13=>?_)
 ·refine ZCK ?_
  refine ZAK rfl rfl Zr.h Tsz.h rfl (fun _=>rfl) rfl rfl rfl fun h8 hE8 hW8 hg8 hn8=>?_;exact ZFx ⟨rfl,rfl,rfl,hE8,hg8⟩
 ·have hgn:h6.get bn=some (.cells (rowW x) 44 false):=hO.p1
  have hO':=hO.rot;have hg8:h6.get c8=some (.cells [.func (.func 62) ⟨[]⟩ ⟨[.pointer (some ⟨c7,0,none⟩),.pointer (some ⟨c8,0,none⟩)]⟩] 136 false):=hO'.p3;have hg15:h6.get c15=some (.cells [.map (some bt)] 138 false):=hO'.at 7 rfl;have hmt:MapB strK h6 bt gt:=hO'.at 8 rfl;have hfx:=hLd.find hO' x.a;have hlk:=hok.2 (r x.a);refine zy ?_;refine ZBX rfl rfl rfl rfl rfl Bod.h rfl rfl hfx ?_;refine zy ?_
  cases hq:titS r pre (r x.a) with
  | none =>
   rw[hq] at hlk;refine zD (ZAX strK (k:=r x.a) (v:=encW ZIT) (q:=false) Und.h Zr.h rfl hmt rfl (by rw[hlk];rfl) (by rw[hlk];rfl)) ?_;refine ZAK rfl rfl Zr.h Tsz.h rfl (fun _=>rfl) rfl rfl rfl fun h7 hE7 hW7 hg7 hn7=>?_;have hO7:=(hO'.ext hE7).pick 8 rfl;have hgn7:=hE7.get hgn;have hg157:=hE7.get hg15;refine zy ?_;refine ZAx strK (k:=r x.a) (v:=encW x) hw (hE6.trans hE7) rfl Und.h rfl hO7 rfl rfl fun h14 hW14 hO14 hE14=>?_;refine zy ?_;exact⟨rfl,_,hok.put (fun y hy=>by rw[hq] at hy;cases hy),(hO14.unpick 8 (Nat.le_of_ble_eq_true rfl)).unrot,hE14⟩
  | some y =>
   rw[hq] at hlk;refine zD (ZAX strK (k:=r x.a) (v:=encW y) (q:=true) Und.h Zr.h rfl hmt rfl (by rw[hlk];rfl) (by rw[hlk];rfl)) ?_;refine ZAK rfl rfl Zr.h Tsz.h rfl (fun _=>rfl) rfl rfl rfl fun h7 hE7 hW7 hg7 hn7=>?_;have hO7:=(hO'.ext hE7).pick 8 rfl;have hgn7:=hE7.get hgn;have hg157:=hE7.get hg15;refine zy ?_
   by_cases hd:y.day<x.day
   ·refine zD (A_tt hd (ZCl rfl rfl)) ?_
    refine ZAx strK (k:=r x.a) (v:=encW x) hw (hE6.trans hE7) rfl Und.h rfl hO7 rfl rfl fun h14 hW14 hO14 hE14=>?_;refine zy ?_;exact⟨rfl,_,hok.put (fun y' hy=>by rw[hq] at hy;cases hy;exact hd),(hO14.unpick 8 (Nat.le_of_ble_eq_true rfl)).unrot,hE14⟩
   ·refine zD (A_ff hd (ZCl rfl rfl)) ?_
    exact⟨rfl,gt,hok.skip hq hd,(hO'.ext hE7).unrot,hE6.trans hE7⟩
 have hO13':Own h1 h13 (ZBs c7 c8 bl gl++(loI h12.nx .defd::ceI c15 [.map (some bt)] 138 false::mapI strK bt gt::mapI strK bm gw::DL)):=by
  have h1':Own h1 h13 (ZBs c7 c8 bl gl++(loI h12.nx .defd::([ceI c1 [.slice aS S.length S.length] 127 false,ceI c2 [.slice (some ⟨bk,0,none⟩) 1 1] 39 false,ceI bk [i64 4] 3 false,ceI c15 [.map (some bt)] 138 false,mapI strK bt gt]++(mapI strK bm gw::DL)))):=hO13.mid2;exact h1'.sub (List.Sublist.append (List.Sublist.refl _) (List.Sublist.cons_cons _ (List.Sublist.cons _ (List.Sublist.cons _ (List.Sublist.cons _ (List.Sublist.refl _))))))
 clear hO13 hO12 hE12;generalize h12.nx=r12 at hO13' ⊢;refine zy ?_;refine ZBt fun hW13=>?_;refine ZCL rfl rfl fun h14 hE14 hW14 hg14 hn14=>?_;have hO14:=hO13'.newMap (K:=strK) hW13 hE13.2.1 hE14 hg14 (Nat.le_refl _);replace hE14:=hE13.trans hE14;generalize h13.nx=ba at hO14 hg14 ⊢;refine zy ?_;refine ZC5 strK hE14 rfl rfl Und.h rfl (hO14.pick 7 rfl) fun h15 hW15 hO15 hE15=>?_;replace hE15:=hE14.trans hE15;generalize h14.nx=rq at hO15 ⊢;have hO15':=(hO15.unpick 7 (Nat.le_of_ble_eq_true rfl)).nilSl 9 1;clear hO15 hO14 hO13' hE14 hE13 hg14 hn14;refine zy ?_;refine ZAO (fun (st:Value×List Str) m ds h'=>ds=[.coll r12]/\Ext h1 h'/\Own h1 h' (slI h1 st.1 9 1 (st.2.reverse.map str) st.2.length::mapI strK ba []::(ZBs c7 c8 bl gl++(loI r12 .defd::ceI c15 [.map (some bt)] 138 false::mapI strK bt gt::itI strK bm rq gw st.2::DL)))/\st.2.Nodup/\(∀k∈st.2,k∈nodW S)/\AllK m [(8,.pointer (some ⟨c8,0,none⟩)),(15,.pointer (some ⟨c15,0,none⟩)),(20,.map (some ba)),(21,st.1),(104,.pointer (some ⟨rq,0,none⟩)),(2,.slice none 0 0)]) (fun st=>(nodW S).length-st.2.length) (.slice none 0 0,[]) ?_ ?_
 ·exact⟨rfl,hE15,hO15',.nil,(fun _ h=>nomatch h),rfl,rfl,rfl,rfl,rfl,rfl,trivial⟩
 clear hO15' hE15 hW15;rintro⟨vs,V⟩ m ds h16 ⟨rfl,hE16,hO16,hVn,hV2,hall⟩;refine Wc.le ?_ (Le.kn hall);clear hall;simp only at hO16 hVn hV2 ⊢;refine zy ?_;refine ZDv strK hw hE16 rfl rfl rfl hon (hO16.pick 8 rfl) (fun hdone=>?_) fun k v h17 hlkv hnk hC hO17 hE17=>?_;rotate_left
 ·have hkn:k∈nodW S:=by
   have:=hk1 k;rw[hlkv] at this;exact of_decide_eq_true this.symm
  have hlt:V.length+1<=(nodW S).length:=by
   have:=ZB1 (List.nodup_cons.2 ⟨hnk,hVn⟩) (m:=nodW S) fun k' hk'=>by
    rcases List.mem_cons.1 hk' with rfl|hk'
    ·exact hkn
    ·exact hV2 k' hk'
   simpa using this
  have hO17':Own h1 h17 (slI h1 vs 9 1 (V.reverse.map str) V.length::mapI strK ba []::(ZBs c7 c8 bl gl++(loI r12 .defd::ceI c15 [.map (some bt)] 138 false::mapI strK bt gt::itI strK bm rq gw (k::V)::DL))):=hO17.unpick 8 (Nat.le_of_ble_eq_true rfl);refine zy ?_;refine ZFv strK rfl rfl rfl hC ?_;refine zy ?_;refine ZCA rfl rfl Und.h Tsz.h Zr.h rfl rfl rfl rfl rfl fun h18 hE18 hW18 hg18 hn18=>?_;refine zy ?_;refine ZBN (k:=1) (l:=[str k]) hw (hE17.trans hE18) rfl rfl rfl rfl rfl Und.h inferInstance rfl rfl (hO17'.ext hE18) (ZBK Und.h (by intro k;simp) (ZAV hg18 rfl)) rfl rfl (by omega) (by omega) fun v19 h19 hW19 hO19 hE19=>?_
  refine zy ?_;refine⟨(v19,k::V),(by show (nodW S).length-(V.length+1)<(nodW S).length-V.length;omega),rfl,hE19,?_,List.nodup_cons.2 ⟨hnk,hVn⟩,fun k' hk'=>?_,rfl,rfl,rfl,rfl,rfl,rfl,trivial⟩
  ·simp only[List.reverse_cons,List.map_append,List.map_cons,List.map_nil,List.length_cons]
   exact hO19
  ·rcases List.mem_cons.1 hk' with rfl|hk'
   ·exact hkn
   ·exact hV2 k' hk'
 have hVm:∀k,k∈V ↔ k∈nodW S:=fun k=>⟨hV2 k,fun hk=>by
  obtain⟨ax,cx,hlx,-⟩:=hls k hk;exact hdone k _ hlx⟩
 have hVl:V.length=(ZAN S).length:=by
  rw[<-ZI4 hVn hVm,(List.mergeSort_perm _ _).length_eq,List.length_reverse]
 have hNl:(ZAN S).length<=10000:=Nat.le_trans (ZF4 ZAR _) hnl;have hO16':Own h1 h16 (slI h1 vs 9 1 (V.reverse.map str) V.length::mapI strK ba []::(ZBs c7 c8 bl gl++[loI r12 .defd,ceI c15 [.map (some bt)] 138 false,mapI strK bt gt])):=hO16.sub (List.Sublist.cons_cons _ (List.Sublist.cons_cons _ (List.Sublist.append (List.Sublist.refl _) (List.Sublist.cons_cons _ (List.Sublist.cons_cons _ (List.Sublist.cons_cons _ (List.nil_sublist _)))))));clear hO16 hdone;refine zy ?_;refine ZBt fun hW16=>?_;refine zR (ZMr (show ZAD h1 h16 vs 9 1 (V.reverse.map str) V.length from hO16'.p1) (by omega)) ?_;rintro _ h17 ⟨rfl,hF17,hX17⟩
 rw[ZI4 hVn hVm,hVl] at hF17;have hO17:Own h1 h17 (slI h1 vs 9 1 ((ZAN S).map str) (ZAN S).length::_):=hO16'.put hW16 hE16.2.1 hX17 hF17 fun c hc=>.inl hc;have hE17:=hO16'.grows hX17 hE16 hw;clear hO16' hX17 hF17 hVm hVl hVn hV2 hE16;have hO18':=hO17.nilSl 41 3;have hO18:Own h1 h17 (ZBs c7 c8 bl gl++(mapI strK ba []::slI h1 vs 9 1 ((ZAN S).map str) (ZAN S).length::loI r12 .defd::ceI c15 [.map (some bt)] 138 false::mapI strK bt gt::allX h1 (.slice none 0 0) [])):=hO18'.shuf (ceI 0 [] 0 false) xF43 [3,4,5,2,1,6,7,8,0] (by decide) rfl;clear hO18' hO17;have htit:ZKl (repW S) (ofK [4] S) gt:=by
  refine⟨hok13.1,fun k=>?_⟩
  rw[hok13.2,ZP3 fun x hx=>hrep x.a (by
   unfold nodW;exact List.mem_append_right _ (List.mem_map.2 ⟨x,hx,rfl⟩))]
 clear hok13;have hmem:∀k,k∈ZAN S ↔ k∈nodW S:=fun k=>ZCU ZAR
 have hwl:∀p1 p2,p1.length<=(ZAN S).length->(ZBy (repW S) (titB (repW S) (ofK [4] S)) p1 p2).length<=10000:=fun p1 p2 hp=>by
  unfold ZBy ZB6;rw[List.length_map];have h1:=ZKo ((p1.filter fun k=>!ZBY k).map (repW S));rw[List.length_map] at h1;have h2:=List.length_filter_le (fun k=>!ZBY k) p1;omega
 obtain⟨avs,evs,-,hLvs⟩:=ZAD.srcAt (show ZAD h1 h17 vs 9 1 ((ZAN S).map str) (ZAN S).length from hO18.at 4 rfl);subst evs;refine zy ?_;refine ZAO (fun (st:Nat×Value×List WkM×List (Str×Value)) m ds h'=>ds=[.coll r12]/\Ext h1 h'/\st.1<=(ZAN S).length/\Own h1 h' (ZBs c7 c8 bl gl++(mapI strK ba st.2.2.2::slI h1 (.slice avs (ZAN S).length (ZAN S).length) 9 1 ((ZAN S).map str) (ZAN S).length::loI r12 .defd::ceI c15 [.map (some bt)] 138 false::mapI strK bt gt::allX h1 st.2.1 st.2.2.1))/\st.2.2.1.map spM=ZBy (repW S) (titB (repW S) (ofK [4] S)) ((ZAN S).take st.1) []/\AtOK st.2.2.2 (ZB6 (repW S) ((ZAN S).take st.1))/\AllK m [(2,st.2.1),(8,.pointer (some ⟨c8,0,none⟩)),(15,.pointer (some ⟨c15,0,none⟩)),(20,.map (some ba)),(21,.slice avs (ZAN S).length (ZAN S).length),(115,.slice avs (ZAN S).length (ZAN S).length),(116,i64 (ZAN S).length),(117,i64 (st.1:Nat))]) (fun st=>(ZAN S).length-st.1) (0,.slice none 0 0,[],[]) ?_ ?_
 ·exact⟨rfl,hE17,Nat.zero_le _,hO18,rfl,AtOK.nil,rfl,rfl,rfl,rfl,rfl,rfl,rfl,rfl,trivial⟩
 clear hO18 hE17 hLvs;rintro⟨i,va,A,gat⟩ m ds h19 ⟨rfl,hE19,hi,hO19,hA,hat,hall⟩;refine Wc.le ?_ (Le.kn hall);clear hall;simp only at hi hO19 hA hat ⊢;refine zy ?_;refine zC (ZAf rfl rfl) (fun hil=>?_) (fun hil=>?_)
 ·have hi':i<(ZAN S).length:=by omega
  have htk:(ZAN S).take (i+1)=(ZAN S).take i++[(ZAN S)[i]]:=by rw[List.take_add_one,List.getElem?_eq_getElem hi'];rfl
  obtain⟨av2,ev2,-,hLi⟩:=ZAD.srcAt (show ZAD h1 h19 (.slice avs (ZAN S).length (ZAN S).length) 9 1 ((ZAN S).map str) (ZAN S).length from hO19.at 4 rfl);obtain⟨bx,ox,oax,rfl,hcx⟩:=hLi.1 i hi';cases ev2;have hkn:=(hmem _).1 (List.getElem_mem hi');have hpl:((ZAN S).take i).length<=(ZAN S).length:=by rw[List.length_take];omega
  generalize (ZAN S)[i]=k at *;have hks:=ZKx hsg hkn;have hrk:=hrep k hkn;have hAl:A.length<=10000:=by
   have:=congrArg List.length hA;rw[List.length_map] at this;rw[this];exact hwl _ _ hpl
  generalize (ZAN S).take i=p at *;refine zy ?_;refine zD (A_ix Und.h Tsz.h rfl rfl) ?_;refine zU (ZGu (p:=[35]) (show k.length<_ by omega) (by decide)) ?_;unfold cutP
  by_cases hh:k.take ([35]:Str).length=[35]
  ·have hhb:ZBY k=true:=decide_eq_true hh
   rw[if_pos hh];refine zy ?_;refine⟨(i+1,va,A,gat),(by show (ZAN S).length-(i+1)<(ZAN S).length-i;omega),rfl,hE19,hi',hO19,?_,?_,rfl,rfl,rfl,rfl,rfl,rfl,rfl,rfl,trivial⟩
   ·simp only[htk]
    rw[hA];unfold ZBy;rw[ZIf hhb,ZM1 hhb]
   ·simp only[htk]
    rw[ZIf hhb];exact hat
  have hhb:ZBY k=false:=decide_eq_false hh;rw[if_neg hh];have hfk:=hLd.find hO19 k;rw[hrk] at hfk;have hg8:h19.get c8=some (.cells [.func (.func 62) ⟨[]⟩ ⟨[.pointer (some ⟨c7,0,none⟩),.pointer (some ⟨c8,0,none⟩)]⟩] 136 false):=hO19.p3;have hma:MapB strK h19 ba gat:=hO19.p4;have hlka:=hat.2 (repW S k);refine zy ?_;refine ZBX rfl rfl rfl rfl rfl Bod.h rfl rfl hfk ?_;refine zy ?_
  by_cases hq:repW S k∈ZB6 (repW S) p
  ·rw[if_pos hq] at hlka
   refine zE (ZAX strK (k:=repW S k) (v:=i64 ((ZB6 (repW S) p).idxOf (repW S k):Nat)) (q:=true) Und.h Zr.h rfl hma rfl (by rw[hlka];rfl) (by rw[hlka];rfl)) ?_;have hAt:=ZLA (r:=repW S) (tit:=titB (repW S) (ofK [4] S)) (p2:=[]) hq;have hAold:=ZOi (r:=repW S) (tit:=titB (repW S) (ofK [4] S)) (p2:=[]) hhb hq;have hroot:=ZEc (r:=repW S) (p:=p) hhb;rw[if_pos hq] at hroot;rw[<-hA] at hAt hAold;generalize (ZB6 (repW S) p).idxOf (repW S k)=j at *;obtain⟨a,hAj,hsa⟩:∃a,A[j]?=some a/\spM a=ZBO (repW S) (titB (repW S) (ofK [4] S)) p [] (repW S k):=by
    rw[List.getElem?_map] at hAt
    cases hz:A[j]? with
    | none=>rw[hz] at hAt;cases hAt
    | some a=>rw[hz] at hAt;exact⟨a,rfl,Option.some.inj hAt⟩
   have hjA:j<A.length:=(List.getElem?_eq_some_iff.1 hAj).1;have hatj:(lkp (repW S k) gat).getD (i64 0)=i64 (j:Nat):=by rw[hlka];rfl
   have hal:a.2.1.length<=10000:=by
    have h1:=congrArg (fun w:WkO=>w.1.length) hsa;have h2:(ZBO (repW S) (titB (repW S) (ofK [4] S)) p [] (repW S k)).1.length<=p.length:=Nat.le_trans (List.length_filter_le _ _) (List.length_filter_le _ _);have h3:a.2.1.length=(ZBO (repW S) (titB (repW S) (ofK [4] S)) p [] (repW S k)).1.length:=h1;omega
   refine zy ?_;obtain⟨bA,spA,opA,rfl,hgA0,hlA0,hbA0⟩:=ZAD.blk (show ZAD h1 h19 va 41 3 ((A).flatMap rowM) (A).length from hO19.at 8 rfl) (by omega);have hfk2:=hLd.find hO19 k;rw[hrk] at hfk2;have hg82:h19.get c8=some (.cells [.func (.func 62) ⟨[]⟩ ⟨[.pointer (some ⟨c7,0,none⟩),.pointer (some ⟨c8,0,none⟩)]⟩] 136 false):=hO19.p3;have hma2:MapB strK h19 ba gat:=hO19.p4;obtain⟨Rr,ht1,ht2⟩:=ZHP h1 (.slice (some ⟨bA,0,spA⟩) (A).length (A).length) hAj;have hOa:Own h1 h19 ((ZBs c7 c8 bl gl++[mapI strK ba gat,slI h1 (.slice (some ⟨bx,ox,oax⟩) (ZAN S).length (ZAN S).length) 9 1 ((ZAN S).map str) (ZAN S).length,loI r12 .defd,ceI c15 [.map (some bt)] 138 false,mapI strK bt gt])++allX h1 (.slice (some ⟨bA,0,spA⟩) (A).length (A).length) (A)):=hO19
   have hOb:=ht1 h19 _ hOa;obtain⟨opB,hgB,hcB⟩:=ZDU (t:=0) (v:=a.1) hOb.up3 hAj (by decide) rfl;refine zy ?_;refine ZBX rfl rfl rfl rfl rfl Bod.h rfl rfl hfk2 ?_;refine zy ?_;refine zD (ZBP strK (k:=repW S k) (v:=i64 (j:Nat)) Und.h Zr.h rfl hma2 rfl hatj) ?_;refine zD (ZAL (k:=j) Und.h Tsz.h rfl rfl rfl hjA) ?_;refine ZCA rfl rfl Und.h Tsz.h Zr.h rfl rfl rfl rfl rfl fun h30 hE30 hW30 hg30 hn30=>?_;refine zy ?_;refine ZBN (k:=1) (l:=[str k]) hw (hE19.trans hE30) rfl rfl rfl rfl rfl Und.h inferInstance rfl rfl (show Own h1 h30 (slI h1 a.1 9 1 (a.2.1.map str) a.2.1.length::_) from hOb.ext hE30) (ZBK Und.h (by intro k;simp) (ZAV hg30 rfl)) rfl rfl (by omega) (by omega) fun v31 h31 hW31 hO31 hE31=>?_
   have hO31':Own h1 h31 (nmI h1 (v31,a.2.1++[k],a.2.2)::itI' h1 (v31,a.2.1++[k],a.2.2)::topM h1 (.slice (some ⟨bA,0,spA⟩) (A).length (A).length) (A)::((ZBs c7 c8 bl gl++[mapI strK ba gat,slI h1 (.slice (some ⟨bx,ox,oax⟩) (ZAN S).length (ZAN S).length) 9 1 ((ZAN S).map str) (ZAN S).length,loI r12 .defd,ceI c15 [.map (some bt)] 138 false,mapI strK bt gt])++Rr)):=by
    unfold nmI;simp only[List.map_append,List.map_cons,List.map_nil,List.length_append,List.length_singleton];exact hO31
   obtain⟨opC,hgC,-⟩:=ZDU (t:=0) (v:=a.1) hO31'.up3 hAj (by decide) rfl;obtain⟨a31,e31,-⟩:=ZAD.is (show ZAD h1 h31 v31 9 1 ((a.2.1++[k]).map str) (a.2.1++[k]).length from hO31'.p1);subst e31;have hly:0+j*3+0<((A).flatMap rowM).length:=by rw[ZJv];omega
   refine zy ?_;refine ZAq rfl Tsz.h rfl rfl hgC rfl rfl (ZCx hly) fun h32 hU32=>?_;have hset:((A).flatMap rowM).set (0+j*3+0) (.slice a31 (a.2.1++[k]).length (a.2.1++[k]).length)=(((A).set j (.slice a31 (a.2.1++[k]).length (a.2.1++[k]).length,a.2.1++[k],a.2.2))).flatMap rowM:=by
    rw[Nat.zero_add];exact ZFN (enc:=rowM) (k:=3) (fun _=>rfl) (t:=0) (by decide) hAj rfl
   have hO31u:Own h1 h31 (slI h1 (.slice (some ⟨bA,0,spA⟩) (A).length (A).length) 41 3 ((A).flatMap rowM) (A).length::nmI h1 (.slice a31 (a.2.1++[k]).length (a.2.1++[k]).length,a.2.1++[k],a.2.2)::itI' h1 (.slice a31 (a.2.1++[k]).length (a.2.1++[k]).length,a.2.1++[k],a.2.2)::((ZBs c7 c8 bl gl++[mapI strK ba gat,slI h1 (.slice (some ⟨bx,ox,oax⟩) (ZAN S).length (ZAN S).length) 9 1 ((ZAN S).map str) (ZAN S).length,loI r12 .defd,ceI c15 [.map (some bt)] 138 false,mapI strK bt gt])++Rr)):=hO31'.up3;obtain⟨hO32,hE32⟩:=Own.setRow hO31u hW31 hE31 hw hU32 (by rw[List.length_set]);rw[hset] at hO32
   have hO33:=ht2 h32 _ (.slice a31 (a.2.1++[k]).length (a.2.1++[k]).length,a.2.1++[k],a.2.2) (.slice (some ⟨bA,0,spA⟩) (A).length (A).length) (by
    have h1:=hO32.dn3;unfold topM;rw[List.length_set];exact h1)
   refine zy ?_;refine⟨(i+1,.slice (some ⟨bA,0,spA⟩) A.length A.length,A.set j (_,a.2.1++[k],a.2.2),gat),(by show (ZAN S).length-(i+1)<(ZAN S).length-i;omega),rfl,hE32,hi',hO33,?_,?_,rfl,rfl,rfl,rfl,rfl,rfl,rfl,rfl,trivial⟩
   ·simp only[htk,List.map_set]
    rw[hAold,<-hsa];rfl
   ·simp only[htk]
    rw[hroot];exact hat
  rw[if_neg hq] at hlka;refine zE (ZAX strK (k:=repW S k) (v:=i64 0) (q:=false) Und.h Zr.h rfl hma rfl (by rw[hlka];rfl) (by rw[hlka];rfl)) ?_;have hroot:=ZEc (r:=repW S) (p:=p) hhb;rw[if_neg hq] at hroot;have hAnew:=ZOp (r:=repW S) (tit:=titB (repW S) (ofK [4] S)) hhb hq;have hRl:(ZB6 (repW S) p).length=A.length:=by
   have:=congrArg List.length hA;rw[List.length_map] at this;rw[this];unfold ZBy;rw[List.length_map]
  have hat2:=hat.add hq;rw[hRl] at hat2;rw[<-hA] at hAnew;have hlt':=htit.2 (repW S k);obtain⟨y,hy1,hy2⟩:∃y:WkR,(lkp (repW S k) gt).getD (encW ZIT)=encW y/\y.b=titB (repW S) (ofK [4] S) (repW S k):=by
   rw[hlt'];unfold titB
   cases titS (repW S) (ofK [4] S) (repW S k) with
   | none=>exact⟨ZIT,rfl,rfl⟩
   | some y=>exact⟨y,rfl,rfl⟩
  obtain⟨ava,eva,-⟩:∃av,va=.slice av A.length A.length/\True:=by
   obtain⟨av,e1,-⟩:=ZAD.is (show ZAD h1 h19 va 41 3 (A.flatMap rowM) A.length from hO19.at 8 rfl);exact⟨av,e1,trivial⟩
  subst eva;refine zy ?_;refine ZBX rfl rfl rfl rfl rfl Bod.h rfl rfl hfk ?_;refine zy ?_;refine ZAx strK (k:=repW S k) (v:=i64 (A.length:Nat)) hw hE19 rfl Und.h rfl (hO19.pick 3 rfl) rfl rfl fun h20 hW20 hO20' hE20=>?_;have hO20:Own h1 h20 (ZBs c7 c8 bl gl++(mapI strK ba (setK (repW S k) (i64 (A.length:Nat)) gat)::slI h1 (.slice (some ⟨bx,ox,oax⟩) (ZAN S).length (ZAN S).length) 9 1 ((ZAN S).map str) (ZAN S).length::loI r12 .defd::ceI c15 [.map (some bt)] 138 false::mapI strK bt gt::allX h1 (.slice ava A.length A.length) A)):=hO20'.unpick 3 (Nat.le_of_ble_eq_true rfl);clear hO20' hO19 hg8 hma;have hfk3:=hLd.find hO20 k
  rw[hrk] at hfk3;have hg83:h20.get c8=some (.cells [.func (.func 62) ⟨[]⟩ ⟨[.pointer (some ⟨c7,0,none⟩),.pointer (some ⟨c8,0,none⟩)]⟩] 136 false):=hO20.p3;have hg153:h20.get c15=some (.cells [.map (some bt)] 138 false):=hO20.at 6 rfl;have hmt3:MapB strK h20 bt gt:=hO20.at 7 rfl;have hO21:=hO20.pick 8 rfl;generalize titB (repW S) (ofK [4] S)=tit at *;have hEa:Ext h20 (Heap.add h20 (.cells [.slice none 0 0,.slice none 0 0,str y.b] 41 false)):=Ext.add hW20 _;have hFa:ZAD h1 (Heap.add h20 (.cells [.slice none 0 0,.slice none 0 0,str y.b] 41 false)) (.slice (some ⟨h20.nx,0,none⟩) 1 1) 41 3 [.slice none 0 0,.slice none 0 0,str y.b] 1:=ZAD.lit Heap.get_add_same rfl hE20.2.1
  refine zy ?_;refine ZAJ hmix [0,0,0,0,12,30,62,126,254,511,1023] [0,1,2,3] (some 4) [([5,6,7,8],(some 9)),([],(some 10)),([],none)] (by kernel_rfl) (by kernel_rfl) ?_;refine z_m ?_;refine z_l ?_;refine z_l ?_;refine z_m ?_;refine ZAH [2,3] (by kernel_rfl) rfl (ZAA rfl) rfl nb (dF (dF (kF (kF nF)))) (ZAT rfl rfl rfl rfl rfl Bod.h hfk3 ?_);refine ZAE rfl rfl rfl rfl rfl (fun _=>ZBP strK (k:=repW S k) (v:=encW y) Und.h Zr.h rfl hmt3 rfl hy1) ?_;refine ZAE rfl rfl rfl rfl rfl (fun _=>ZRA rfl rfl) ?_;refine z_b ?_;refine ZCX (nk:=.sl _ _) rfl rfl rfl rfl rfl (fun _ _ hs=>N_bs hs Und.h Tsz.h Zr.h rfl rfl rfl rfl rfl) ?_
  refine ZAH (h1:=(Heap.add h20 _)) xF43 (by kernel_rfl) rfl (by refine t_l 1 ?_;refine t_m 0 ?_;exact ZAA rfl) rfl rfl (dF (dF (dF (dF (dF (dF nF)))))) (ZA6 (ZDa (by':=64) (sz:=3) (k:=1) (n:=A.length) (l:=[.slice none 0 0,.slice none 0 0,str y.b]) rfl hw (hE20.trans hEa) rfl rfl rfl rfl Und.h inferInstance rfl rfl (hO21.ext hEa) (hFa.src (dd:=.slice 41) Und.h (by intro k;simp)) rfl rfl (by omega) (by omega) (fun v22 h22 hO22 hE22 hw22=>?_)));have hO22':Own h1 h22 (topM h1 v22 (A++[(.slice none 0 0,[],.slice none 0 0,[],y.b)])::((ZBs c7 c8 bl gl++[mapI strK ba (setK (repW S k) (i64 (A.length:Nat)) gat),slI h1 (.slice (some ⟨bx,ox,oax⟩) (ZAN S).length (ZAN S).length) 9 1 ((ZAN S).map str) (ZAN S).length,loI r12 .defd,ceI c15 [.map (some bt)] 138 false,mapI strK bt gt])++A.flatMap (slM h1))):=by
   unfold topM;rw[List.flatMap_append,List.length_append];exact hO22
  have hO23:=ZRM hO22';refine ZAH (h1:=h22) [0,1,2,3,4,5,6,7,8,9] (by kernel_rfl) rfl (ZAA rfl) rfl rfl nF (ZBW rfl rfl (ZAS rfl) ?_);refine ZAP (h1:=h22) (ZAA rfl) rfl ?_;clear hO22 hO22' hO21 hO20 hFa hEa hmt3 hg153 hg83 hfk3 hfk;refine zy ?_;obtain⟨j,hje⟩:∃j,j=A.length:=⟨_,rfl⟩;have hAj:(A++[((.slice none 0 0,[],.slice none 0 0,[],y.b):WkM)])[j]?=some (.slice none 0 0,[],.slice none 0 0,[],y.b):=by
   rw[hje,List.getElem?_append_right (Nat.le_refl _),Nat.sub_self];rfl
  have hatj:(lkp (repW S k) (setK (repW S k) (i64 (A.length:Nat)) gat)).getD (i64 0)=i64 (j:Nat):=by rw[ZB0,if_pos rfl,hje];rfl
  generalize hgat':setK (repW S k) (i64 (A.length:Nat)) gat=gat' at *;generalize hAA:A++[((.slice none 0 0,[],.slice none 0 0,[],y.b):WkM)]=AA at *;have hAAl:AA.length=A.length+1:=by rw[<-hAA,List.length_append];rfl
  have hjA:j<AA.length:=by omega
  generalize ha:((.slice none 0 0,[],.slice none 0 0,[],y.b):WkM)=a at *;have hal:a.2.1.length<=10000:=by rw[<-ha];simp
  have hO24:Own h1 h22 (ZBs c7 c8 bl gl++(mapI strK ba gat'::slI h1 (.slice (some ⟨bx,ox,oax⟩) (ZAN S).length (ZAN S).length) 9 1 ((ZAN S).map str) (ZAN S).length::loI r12 .defd::ceI c15 [.map (some bt)] 138 false::mapI strK bt gt::allX h1 v22 AA)):=hO23;clear hO23;obtain⟨bA,spA,opA,rfl,hgA0,hlA0,hbA0⟩:=ZAD.blk (show ZAD h1 h22 v22 41 3 ((AA).flatMap rowM) (AA).length from hO24.at 8 rfl) (by omega);have hfk2:=hLd.find hO24 k;rw[hrk] at hfk2;have hg82:h22.get c8=some (.cells [.func (.func 62) ⟨[]⟩ ⟨[.pointer (some ⟨c7,0,none⟩),.pointer (some ⟨c8,0,none⟩)]⟩] 136 false):=hO24.p3;have hma2:MapB strK h22 ba gat':=hO24.p4
  obtain⟨Rr,ht1,ht2⟩:=ZHP h1 (.slice (some ⟨bA,0,spA⟩) (AA).length (AA).length) hAj;have hOa:Own h1 h22 ((ZBs c7 c8 bl gl++[mapI strK ba gat',slI h1 (.slice (some ⟨bx,ox,oax⟩) (ZAN S).length (ZAN S).length) 9 1 ((ZAN S).map str) (ZAN S).length,loI r12 .defd,ceI c15 [.map (some bt)] 138 false,mapI strK bt gt])++allX h1 (.slice (some ⟨bA,0,spA⟩) (AA).length (AA).length) (AA)):=hO24;have hOb:=ht1 h22 _ hOa;obtain⟨opB,hgB,hcB⟩:=ZDU (t:=0) (v:=a.1) hOb.up3 hAj (by decide) rfl;refine zy ?_;refine ZBX rfl rfl rfl rfl rfl Bod.h rfl rfl hfk2 ?_;refine zy ?_;refine zD (ZBP strK (k:=repW S k) (v:=i64 (j:Nat)) Und.h Zr.h rfl hma2 rfl hatj) ?_
  refine zD (ZAL (k:=j) Und.h Tsz.h rfl rfl rfl hjA) ?_;refine ZCA rfl rfl Und.h Tsz.h Zr.h rfl rfl rfl rfl rfl fun h30 hE30 hW30 hg30 hn30=>?_;refine zy ?_;refine ZBN (k:=1) (l:=[str k]) hw (hE22.trans hE30) rfl rfl rfl rfl rfl Und.h inferInstance rfl rfl (show Own h1 h30 (slI h1 a.1 9 1 (a.2.1.map str) a.2.1.length::_) from hOb.ext hE30) (ZBK Und.h (by intro k;simp) (ZAV hg30 rfl)) rfl rfl (by omega) (by omega) fun v31 h31 hW31 hO31 hE31=>?_;have hO31':Own h1 h31 (nmI h1 (v31,a.2.1++[k],a.2.2)::itI' h1 (v31,a.2.1++[k],a.2.2)::topM h1 (.slice (some ⟨bA,0,spA⟩) (AA).length (AA).length) (AA)::((ZBs c7 c8 bl gl++[mapI strK ba gat',slI h1 (.slice (some ⟨bx,ox,oax⟩) (ZAN S).length (ZAN S).length) 9 1 ((ZAN S).map str) (ZAN S).length,loI r12 .defd,ceI c15 [.map (some bt)] 138 false,mapI strK bt gt])++Rr)):=by
   unfold nmI;simp only[List.map_append,List.map_cons,List.map_nil,List.length_append,List.length_singleton];exact hO31
  obtain⟨opC,hgC,-⟩:=ZDU (t:=0) (v:=a.1) hO31'.up3 hAj (by decide) rfl;obtain⟨a31,e31,-⟩:=ZAD.is (show ZAD h1 h31 v31 9 1 ((a.2.1++[k]).map str) (a.2.1++[k]).length from hO31'.p1);subst e31;have hly:0+j*3+0<((AA).flatMap rowM).length:=by rw[ZJv];omega
  refine zy ?_;refine ZAq rfl Tsz.h rfl rfl hgC rfl rfl (ZCx hly) fun h32 hU32=>?_;have hset:((AA).flatMap rowM).set (0+j*3+0) (.slice a31 (a.2.1++[k]).length (a.2.1++[k]).length)=(((AA).set j (.slice a31 (a.2.1++[k]).length (a.2.1++[k]).length,a.2.1++[k],a.2.2))).flatMap rowM:=by
   rw[Nat.zero_add];exact ZFN (enc:=rowM) (k:=3) (fun _=>rfl) (t:=0) (by decide) hAj rfl
  have hO31u:Own h1 h31 (slI h1 (.slice (some ⟨bA,0,spA⟩) (AA).length (AA).length) 41 3 ((AA).flatMap rowM) (AA).length::nmI h1 (.slice a31 (a.2.1++[k]).length (a.2.1++[k]).length,a.2.1++[k],a.2.2)::itI' h1 (.slice a31 (a.2.1++[k]).length (a.2.1++[k]).length,a.2.1++[k],a.2.2)::((ZBs c7 c8 bl gl++[mapI strK ba gat',slI h1 (.slice (some ⟨bx,ox,oax⟩) (ZAN S).length (ZAN S).length) 9 1 ((ZAN S).map str) (ZAN S).length,loI r12 .defd,ceI c15 [.map (some bt)] 138 false,mapI strK bt gt])++Rr)):=hO31'.up3;obtain⟨hO32,hE32⟩:=Own.setRow hO31u hW31 hE31 hw hU32 (by rw[List.length_set]);rw[hset] at hO32
  have hO33:=ht2 h32 _ (.slice a31 (a.2.1++[k]).length (a.2.1++[k]).length,a.2.1++[k],a.2.2) (.slice (some ⟨bA,0,spA⟩) (AA).length (AA).length) (by
   have h1:=hO32.dn3;unfold topM;rw[List.length_set];exact h1)
  refine zy ?_;refine⟨(i+1,.slice (some ⟨bA,0,spA⟩) AA.length AA.length,AA.set j (_,a.2.1++[k],a.2.2),gat'),(by show (ZAN S).length-(i+1)<(ZAN S).length-i;omega),rfl,hE32,hi',hO33,?_,?_,rfl,rfl,rfl,rfl,rfl,rfl,rfl,rfl,trivial⟩
  ·simp only[htk,List.map_set]
   rw[hAnew,<-hAA,<-ha,hje,List.map_append,List.set_append_right _ _ (by simp)];simp[spM,hy2]
  ·simp only[htk]
   rw[hroot];exact hat2
 have hil2:i=(ZAN S).length:=by omega
 subst hil2;rw[List.take_length] at hA hat;refine zy ?_;refine ZAO (fun (st:Nat×Value×List WkM) m ds h'=>ds=[r12].map .coll/\Ext h1 h'/\st.1<=(ZAN S).length/\Own h1 h' (ZBs c7 c8 bl gl++(mapI strK ba gat::slI h1 (.slice avs (ZAN S).length (ZAN S).length) 9 1 ((ZAN S).map str) (ZAN S).length::loI r12 .defd::ceI c15 [.map (some bt)] 138 false::mapI strK bt gt::allX h1 st.2.1 st.2.2))/\st.2.2.map spM=ZBy (repW S) (titB (repW S) (ofK [4] S)) (ZAN S) ((ZAN S).take st.1)/\AllK m [(2,st.2.1),(8,.pointer (some ⟨c8,0,none⟩)),(20,.map (some ba)),(172,.slice avs (ZAN S).length (ZAN S).length),(173,i64 (ZAN S).length),(174,i64 (st.1:Nat))]) (fun st=>(ZAN S).length-st.1) (0,va,A) ?_ ?_
 ·exact⟨rfl,hE19,Nat.zero_le _,hO19,by rw[List.take_zero];exact hA,rfl,rfl,rfl,rfl,rfl,rfl,trivial⟩
 clear hO19 hE19 hA;rintro⟨i,va,A⟩ m ds h19 ⟨rfl,hE19,hi,hO19,hA,hall⟩;refine Wc.le ?_ (Le.kn hall);clear hall;simp only at hi hO19 hA ⊢;refine zy ?_;refine zC (ZAf rfl rfl) (fun hil=>?_) (fun hil=>?_);rotate_left
 ·have hil2:i=(ZAN S).length:=by omega
  subst hil2;rw[List.take_length] at hA;have hOf:Own h1 h19 ([r12].map (fun r=>loI r .defd)++allX h1 va A):=hO19.sub (List.sublist_append_of_sublist_right (List.Sublist.cons _ (List.Sublist.cons _ (List.Sublist.cons_cons _ (List.Sublist.cons _ (List.Sublist.cons _ (List.Sublist.refl _)))))));have hcl:ZC4 h1 h19 [r12]:=hOf.colls;refine zy ?_
  exact ZAB (ZM7 hcl.nd hcl.defd rfl ⟨.inr ⟨hc,va,rfl,fun h'' hk=>by
   have h2:=ZSf (hOf.del.frame fun c o hc hg=>hk c o (Nat.le_trans hE1.2.1 hc) hg);rw[hA] at h2;exact h2⟩,hE1.trans (hcl.ext0 hE19 hw)⟩)
 have hi':i<(ZAN S).length:=by omega
 have htk:(ZAN S).take (i+1)=(ZAN S).take i++[(ZAN S)[i]]:=by rw[List.take_add_one,List.getElem?_eq_getElem hi'];rfl
 obtain⟨av2,ev2,-,hLi⟩:=ZAD.srcAt (show ZAD h1 h19 (.slice avs (ZAN S).length (ZAN S).length) 9 1 ((ZAN S).map str) (ZAN S).length from hO19.at 4 rfl);obtain⟨bx,ox,oax,rfl,hcx⟩:=hLi.1 i hi';cases ev2;have hkn:=(hmem _).1 (List.getElem_mem hi');have hpl:((ZAN S).take i).length<=(ZAN S).length:=by rw[List.length_take];omega
 generalize (ZAN S)[i]=k at *;have hks:=ZKx hsg hkn;have hrk:=hrep k hkn;have hAl:A.length<=10000:=by
  have:=congrArg List.length hA;rw[List.length_map] at this;rw[this];exact hwl _ _ (Nat.le_refl _)
 generalize (ZAN S).take i=p at *;refine zy ?_;refine zD (A_ix Und.h Tsz.h rfl rfl) ?_;refine zU (ZGu (p:=[35]) (show k.length<_ by omega) (by decide)) ?_;unfold cutP
 by_cases hh:k.take ([35]:Str).length=[35]
 rotate_left
 ·have hhb:ZBY k=false:=decide_eq_false hh
  rw[if_neg hh];refine zy ?_;refine⟨(i+1,va,A),(by show (ZAN S).length-(i+1)<(ZAN S).length-i;omega),rfl,hE19,hi',hO19,?_,rfl,rfl,rfl,rfl,rfl,rfl,trivial⟩;simp only[htk];rw[hA];unfold ZBy;rw[ZMJ hhb]
 have hhb:ZBY k=true:=decide_eq_true hh;rw[if_pos hh];have hq:=ZQj hsg hkn hhb;have hlka:=hat.2 (repW S k);rw[if_pos hq] at hlka;have hAt:=ZLA (r:=repW S) (tit:=titB (repW S) (ofK [4] S)) (p2:=p) hq;have hAold:=ZMn (r:=repW S) (tit:=titB (repW S) (ofK [4] S)) (p1:=ZAN S) (p:=p) hhb hq;rw[<-hA] at hAt hAold;generalize (ZB6 (repW S) (ZAN S)).idxOf (repW S k)=j at *;obtain⟨a,hAj,hsa⟩:∃a,A[j]?=some a/\spM a=ZBO (repW S) (titB (repW S) (ofK [4] S)) (ZAN S) p (repW S k):=by
  rw[List.getElem?_map] at hAt
  cases hz:A[j]? with
  | none=>rw[hz] at hAt;cases hAt
  | some a=>rw[hz] at hAt;exact⟨a,rfl,Option.some.inj hAt⟩
 have hjA:j<A.length:=(List.getElem?_eq_some_iff.1 hAj).1;have hatj:(lkp (repW S k) gat).getD (i64 0)=i64 (j:Nat):=by rw[hlka];rfl
 have hal:a.2.2.2.1.length<=10000:=by
  have h1:=congrArg (fun w:WkO=>w.2.1.length) hsa;have h2:(ZBO (repW S) (titB (repW S) (ofK [4] S)) (ZAN S) p (repW S k)).2.1.length<=p.length:=by
   unfold ZBO;simp only[List.length_map];exact Nat.le_trans (List.length_filter_le _ _) (List.length_filter_le _ _)
  have h3:a.2.2.2.1.length=(ZBO (repW S) (titB (repW S) (ofK [4] S)) (ZAN S) p (repW S k)).2.1.length:=h1;omega
 refine zy ?_;obtain⟨bA,spA,opA,rfl,hgA0,hlA0,hbA0⟩:=ZAD.blk (show ZAD h1 h19 va 41 3 ((A).flatMap rowM) (A).length from hO19.at 8 rfl) (by omega);have hfk2:=hLd.find hO19 k;rw[hrk] at hfk2;have hg82:h19.get c8=some (.cells [.func (.func 62) ⟨[]⟩ ⟨[.pointer (some ⟨c7,0,none⟩),.pointer (some ⟨c8,0,none⟩)]⟩] 136 false):=hO19.p3;have hma2:MapB strK h19 ba gat:=hO19.p4;obtain⟨Rr,ht1,ht2⟩:=ZHP h1 (.slice (some ⟨bA,0,spA⟩) (A).length (A).length) hAj;have hOa:Own h1 h19 ((ZBs c7 c8 bl gl++[mapI strK ba gat,slI h1 (.slice (some ⟨bx,ox,oax⟩) (ZAN S).length (ZAN S).length) 9 1 ((ZAN S).map str) (ZAN S).length,loI r12 .defd,ceI c15 [.map (some bt)] 138 false,mapI strK bt gt])++allX h1 (.slice (some ⟨bA,0,spA⟩) (A).length (A).length) (A)):=hO19
 have hOb:=ht1 h19 _ hOa;obtain⟨opB,hgB,hcB⟩:=ZDU (t:=1) (v:=a.2.2.1) hOb.up3 hAj (by decide) rfl;refine zy ?_;refine ZBX rfl rfl rfl rfl rfl Bod.h rfl rfl hfk2 ?_;refine zy ?_;refine zD (ZBP strK (k:=repW S k) (v:=i64 (j:Nat)) Und.h Zr.h rfl hma2 rfl hatj) ?_;refine zD (ZAL (k:=j) Und.h Tsz.h rfl rfl rfl hjA) ?_;refine ZCA rfl rfl Und.h Tsz.h Zr.h rfl rfl rfl rfl rfl fun h30 hE30 hW30 hg30 hn30=>?_;refine zy ?_;refine ZBN (k:=1) (l:=[str (k.drop 1)]) hw (hE19.trans hE30) rfl rfl rfl rfl rfl Und.h inferInstance rfl rfl (show Own h1 h30 (slI h1 a.2.2.1 9 1 (a.2.2.2.1.map str) a.2.2.2.1.length::_) from (hOb.ext hE30).up2) (ZBK Und.h (by intro k;simp) (ZAV hg30 rfl)) rfl rfl (by omega) (by omega) fun v31 h31 hW31 hO31 hE31=>?_
 have hO31':Own h1 h31 (nmI h1 (a.1,a.2.1,v31,a.2.2.2.1++[k.drop 1],a.2.2.2.2)::itI' h1 (a.1,a.2.1,v31,a.2.2.2.1++[k.drop 1],a.2.2.2.2)::topM h1 (.slice (some ⟨bA,0,spA⟩) (A).length (A).length) (A)::((ZBs c7 c8 bl gl++[mapI strK ba gat,slI h1 (.slice (some ⟨bx,ox,oax⟩) (ZAN S).length (ZAN S).length) 9 1 ((ZAN S).map str) (ZAN S).length,loI r12 .defd,ceI c15 [.map (some bt)] 138 false,mapI strK bt gt])++Rr)):=by
  refine Own.up2 ?_;unfold itI';simp only[List.map_append,List.map_cons,List.map_nil,List.length_append,List.length_singleton];exact hO31
 obtain⟨opC,hgC,-⟩:=ZDU (t:=1) (v:=a.2.2.1) hO31'.up3 hAj (by decide) rfl;obtain⟨a31,e31,-⟩:=ZAD.is (show ZAD h1 h31 v31 9 1 ((a.2.2.2.1++[k.drop 1]).map str) (a.2.2.2.1++[k.drop 1]).length from hO31'.p2);subst e31;have hly:0+j*3+1<((A).flatMap rowM).length:=by rw[ZJv];omega
 refine zy ?_;refine ZAq rfl Tsz.h rfl rfl hgC rfl rfl (ZCx hly) fun h32 hU32=>?_;have hset:((A).flatMap rowM).set (0+j*3+1) (.slice a31 (a.2.2.2.1++[k.drop 1]).length (a.2.2.2.1++[k.drop 1]).length)=(((A).set j (a.1,a.2.1,.slice a31 (a.2.2.2.1++[k.drop 1]).length (a.2.2.2.1++[k.drop 1]).length,a.2.2.2.1++[k.drop 1],a.2.2.2.2))).flatMap rowM:=by
  rw[Nat.zero_add];exact ZFN (enc:=rowM) (k:=3) (fun _=>rfl) (t:=1) (by decide) hAj rfl
 have hO31u:Own h1 h31 (slI h1 (.slice (some ⟨bA,0,spA⟩) (A).length (A).length) 41 3 ((A).flatMap rowM) (A).length::nmI h1 (a.1,a.2.1,.slice a31 (a.2.2.2.1++[k.drop 1]).length (a.2.2.2.1++[k.drop 1]).length,a.2.2.2.1++[k.drop 1],a.2.2.2.2)::itI' h1 (a.1,a.2.1,.slice a31 (a.2.2.2.1++[k.drop 1]).length (a.2.2.2.1++[k.drop 1]).length,a.2.2.2.1++[k.drop 1],a.2.2.2.2)::((ZBs c7 c8 bl gl++[mapI strK ba gat,slI h1 (.slice (some ⟨bx,ox,oax⟩) (ZAN S).length (ZAN S).length) 9 1 ((ZAN S).map str) (ZAN S).length,loI r12 .defd,ceI c15 [.map (some bt)] 138 false,mapI strK bt gt])++Rr)):=hO31'.up3;obtain⟨hO32,hE32⟩:=Own.setRow hO31u hW31 hE31 hw hU32 (by rw[List.length_set])
 rw[hset] at hO32
 have hO33:=ht2 h32 _ (a.1,a.2.1,.slice a31 (a.2.2.2.1++[k.drop 1]).length (a.2.2.2.1++[k.drop 1]).length,a.2.2.2.1++[k.drop 1],a.2.2.2.2) (.slice (some ⟨bA,0,spA⟩) (A).length (A).length) (by
  have h1:=hO32.dn3;unfold topM;rw[List.length_set];exact h1)
 refine zy ?_;refine⟨(i+1,.slice (some ⟨bA,0,spA⟩) A.length A.length,A.set j (a.1,a.2.1,_,a.2.2.2.1++[k.drop 1],a.2.2.2.2)),(by show (ZAN S).length-(i+1)<(ZAN S).length-i;omega),rfl,hE32,hi',hO33,?_,rfl,rfl,rfl,rfl,rfl,rfl,trivial⟩;simp only[htk,List.map_set];rw[hAold,<-hsa];rfl
theorem ZN4 {ad:Option Addr}{cap:Nat}{l:List WkR}{h:Heap}(hR:SrcK rowW 6 h ad l)(hn:ad=none->l=[]/\cap=0)(hf:∀x∈l,x.Fit)(hlen:Len l)(hL:WkLib h) :
  Sv Tryz.prog 26 [.slice ad l.length cap] h (RetP fun v h'=>ZTe l v h'/\Ext h h') :=
 (ZQs hR hn hf hlen hL).ret fun v h' hr=>by
  refine⟨?_,hr.2⟩
  rcases hr.1 with ⟨hc,rfl⟩|⟨hc,va,rfl,hW⟩
  ·exact .inl ⟨hc,rfl⟩
  ·exact .inr ⟨hc,va,rfl,hW h' fun _ _ _ q=>q⟩
abbrev xF50:List Nat:=[0,0,3,7,0,0,48,112,255]
abbrev xF51:List Nat:=[0,1,2,3,4,5,6,7,8]
def ZK6:Str:=[101,97,115,116]
def ZG3:Str:=[119,101,115,116]
def ZEE:Str:=[99,97,110,45,49]
def ZL8:Str:=[99,97,110,45,50]
def ZVE:Str:=[99,97,110,45,51]
def ZER:Str:=[100,97,119,110]
def ZMz:Str:=[114,101,101,102]
def ZPa:Str:=[118,97,117,108,116]
def sLab:Str:=[108,97,98]
def ZBu:Str:=[97,117,114,111,114,97]
def ZVM:Str:=[68,101,114,32,77,111,114,103,101,110]
def ZL2:Str:=[84,104,101,32,68,97,119,110]
def catL:List WkR:=[⟨ZK6,1,10,1,ZEE,ZER⟩,⟨ZK6,2,10,1,ZL8,ZMz⟩,⟨ZK6,3,12,5,ZEE,ZPa⟩,⟨ZK6,4,20,5,ZEE,sLab⟩,⟨ZG3,1,11,1,ZEE,ZBu⟩,⟨ZG3,2,11,3,ZER,ZBu⟩,⟨ZG3,3,15,4,ZBu,ZVM⟩,⟨ZG3,4,16,4,ZER,ZL2⟩]
theorem ZFy (x:WkR)(h:Heap):Sv Tryz.prog 51 [str x.archive,i64 x.number,i64 x.day,i64 x.kind,str x.a,str x.b] h (RetP fun v h'=>v=encW x/\Ext h h'):=by
 refine ZA5 fun hw=>?_;refine ZAF Tryz.func51 rfl (by rw[Tryz.ntmps51];rfl) ?_;show Wc Tryz.prog ⟨51,20,none⟩ _ _ _ _ _;refine zy ?_;refine ZBV rfl rfl Zr.h fun h1 hE1 hW1 hg1 hn1=>?_;refine ZFx ?_;refine ZPY ?_;refine ZCK ?_;refine zE (ZEN rfl) ?_;refine zE (ZEN rfl) ?_;refine zE (ZEN rfl) ?_;refine zE (ZEN rfl) ?_;refine zE (ZEN rfl) ?_;refine zE (ZEN rfl) ?_;refine zE (ZFO (v:=encW x) rfl (by kernel_rfl)) ?_;refine ZAq rfl Tsz.h rfl rfl hg1 rfl rfl rfl fun h2 hU=>?_;have hg2:=hU.at';refine zy ?_;exact ZAB (ZAC (vs:=[encW x]) (ZFu rfl (ZF2 RowC.h (ZAV hg2 rfl)) rfl) ⟨rfl,hU.ext hE1 hw (Nat.le_refl _)⟩)
theorem ZIN {a a':Option Addr}{c c':Nat}{l:List Str}{h:Heap}(h1:ZA3 str h a l)(h2:ZA3 str h a' l)(hlen:Len l):Sv Tryz.prog 35 [.slice a l.length c,.slice a' l.length c'] h (RetP fun v h'=>v=.bool true/\h'=h):=by
 refine ZAF Tryz.func35 rfl (by rw[Tryz.ntmps35];rfl) ?_;show Wc Tryz.prog ⟨35,26,none⟩ _ _ _ _ _;refine zy ?_;refine zD (A_ff (fun q=>q rfl) (ZAo rfl rfl)) ?_;refine ZAO (fun (j:Nat) m ds h'=>ds=[]/\h=h'/\j<=l.length/\AllK m [(0,.slice a l.length c),(1,.slice a' l.length c'),(5,i64 (j:Nat))]) (fun j=>l.length-j) 0 ?_ ?_
 ·exact⟨rfl,rfl,Nat.zero_le _,rfl,rfl,rfl,trivial⟩
 rintro j m ds h' ⟨rfl,rfl,hj,hall⟩;refine Wc.le ?_ (Le.kn hall);clear hall;refine zy ?_;refine zC (ZAf rfl rfl) (fun hjl=>?_) (fun hjl=>?_);rotate_left
 ·refine zy ?_
  exact ZAB (ZAC rfl ⟨rfl,rfl⟩)
 have hj':j<l.length:=by omega
 obtain⟨b,o,oa,rfl,hc1⟩:=h1 j hj';obtain⟨b',o',oa',rfl,hc2⟩:=h2 j hj';generalize l[j]=x at *;refine zy ?_;refine ZAJ hmix xF50 xF51 none [] (by kernel_rfl) (by kernel_rfl) ?_;refine z_m ?_;refine z_m ?_;refine ZAE rfl rfl rfl rfl rfl (fun _=>A_ix (k:=j) Und.h Tsz.h rfl rfl) ?_;refine z_l ?_;refine z_m ?_;refine z_m ?_;refine ZAE rfl rfl rfl rfl rfl (fun _=>A_ix (k:=j) Und.h Tsz.h rfl rfl) ?_;refine z_l ?_;refine ZAE rfl rfl rfl rfl rfl (fun _=>A_ff (fun q=>q rfl) (ZBF rfl rfl)) ?_;refine ZAP (ZAA rfl) nb' ?_;refine zy ?_;exact⟨j+1,(by show l.length-(j+1)<l.length-j;omega),rfl,rfl,hj',rfl,rfl,rfl,trivial⟩
theorem ZPv {a a':Option Addr}{c c':Nat}{l:List Key}{h:Heap}(h1:ZAM 2 (fun _ row x=>row=rowK x) h a l)(h2:ZAM 2 (fun _ row x=>row=rowK x) h a' l)(hlen:Len l):Sv Tryz.prog 25 [.slice a l.length c,.slice a' l.length c'] h (RetP fun v h'=>v=.bool true/\h'=h):=by
 refine ZAF Tryz.func25 rfl (by rw[Tryz.ntmps25];rfl) ?_;show Wc Tryz.prog ⟨25,26,none⟩ _ _ _ _ _;refine zy ?_;refine zD (A_ff (fun q=>q rfl) (ZAo rfl rfl)) ?_;refine ZAO (fun (j:Nat) m ds h'=>ds=[]/\h=h'/\j<=l.length/\AllK m [(0,.slice a l.length c),(1,.slice a' l.length c'),(5,i64 (j:Nat))]) (fun j=>l.length-j) 0 ?_ ?_
 ·exact⟨rfl,rfl,Nat.zero_le _,rfl,rfl,rfl,trivial⟩
 rintro j m ds h' ⟨rfl,rfl,hj,hall⟩;refine Wc.le ?_ (Le.kn hall);clear hall;refine zy ?_;refine zC (ZAf rfl rfl) (fun hjl=>?_) (fun hjl=>?_);rotate_left
 ·refine zy ?_
  exact ZAB (ZAC rfl ⟨rfl,rfl⟩)
 have hj':j<l.length:=by omega
 obtain⟨b,o,oa,rfl,row,hr,hx⟩:=h1 j hj';obtain⟨b',o',oa',rfl,row',hr',hx'⟩:=h2 j hj';have e1:row=rowK l[j]:=hx;have e2:row'=rowK l[j]:=hx';clear hx hx';generalize l[j]=x at *;subst e1;subst e2;refine zy ?_;refine ZAJ hmix xF50 xF51 none [] (by kernel_rfl) (by kernel_rfl) ?_;refine z_m ?_;refine z_m ?_;refine ZAE rfl rfl rfl rfl rfl (fun _=>A_ix (k:=j) Und.h Tsz.h rfl rfl) ?_;refine z_r ?_;refine z_m ?_;refine z_m ?_;refine ZAE rfl rfl rfl rfl rfl (fun _=>A_ix (k:=j) Und.h Tsz.h rfl rfl) ?_;refine z_r ?_;refine ZAE rfl rfl rfl rfl rfl (fun _=>A_ff (show ¬¬x=x from fun q=>q rfl) (ZP4 keyK rfl rfl keyG rfl rfl)) ?_
 refine ZAP (ZAA rfl) nb' ?_;refine zy ?_;exact⟨j+1,(by show l.length-(j+1)<l.length-j;omega),rfl,rfl,hj',rfl,rfl,rfl,trivial⟩
def ZJG:WkR:=⟨ZG3,4,16,4,ZER,[68,97,119,110]⟩
theorem ZUF:chkS catL=(0,0):=by kernel_rfl
theorem ZTc:chkS (catL++[ZJG])=(0,0):=by kernel_rfl
theorem ZS8:ZCB (mrgU ltW (catL++[ZJG]))=[(ZG3,4)]:=by kernel_rfl
theorem ZQq:ZAd (mrgU ltW catL)=catL:=by kernel_rfl
theorem ZPd:ZBM catL=[([ZBu,ZER],[ZEE],ZL2),([ZMz],[ZL8],[])]:=by kernel_rfl
theorem ZCZ {h:Heap}:Sv Tryz.prog 49 [] h (RetP fun v h'=>ZAD h h' v 44 6 (catL.flatMap rowW) 8/\Ext h h'):=by
 refine ZA5 fun hw=>?_;refine ZAF Tryz.func49 rfl (by rw[Tryz.ntmps49];rfl) ?_;show Wc Tryz.prog ⟨49,10,none⟩ _ _ _ _ _;refine zy ?_;refine zW (ZFy ⟨ZK6,1,10,1,ZEE,ZER⟩ _) fun h1 hE1=>?_;refine zW (ZFy ⟨ZK6,2,10,1,ZL8,ZMz⟩ _) fun h2 hE2=>?_;refine zW (ZFy ⟨ZK6,3,12,5,ZEE,ZPa⟩ _) fun h3 hE3=>?_;refine zW (ZFy ⟨ZK6,4,20,5,ZEE,sLab⟩ _) fun h4 hE4=>?_;refine zW (ZFy ⟨ZG3,1,11,1,ZEE,ZBu⟩ _) fun h5 hE5=>?_;refine zW (ZFy ⟨ZG3,2,11,3,ZER,ZBu⟩ _) fun h6 hE6=>?_;refine zW (ZFy ⟨ZG3,3,15,4,ZBu,ZVM⟩ _) fun h7 hE7=>?_;refine zW (ZFy ⟨ZG3,4,16,4,ZER,ZL2⟩ _) fun h8 hE8=>?_;have hE:=((((((hE1.trans hE2).trans hE3).trans hE4).trans hE5).trans hE6).trans hE7).trans hE8
 clear hE1 hE2 hE3 hE4 hE5 hE6 hE7 hE8;refine ZCA (cs:=catL.flatMap rowW) rfl rfl Und.h Tsz.h Zr.h rfl rfl rfl rfl (by kernel_rfl) fun h9 hE9 hW9 hg9 hn9=>?_;refine zy ?_;exact ZAB (ZAC rfl ⟨ZAD.lit hg9 rfl hE.2.1,hE.trans hE9⟩)
set_option maxHeartbeats 1000000 in
theorem ZUr (x:WkR){h:Heap}:Sv Tryz.prog 50 [encW x] h (RetP fun v h'=>ZAD h h' v 44 6 ((catL++[x]).flatMap rowW) 9/\Ext h h'):=by
 refine ZA5 fun hw=>?_;refine ZAF Tryz.func50 rfl (by rw[Tryz.ntmps50];rfl) ?_;show Wc Tryz.prog ⟨50,7,none⟩ _ _ _ _ _;refine zy ?_;refine ZAg rfl rfl rfl fun h1 hE1 hW1 hg1 hn1=>?_;generalize h.nx=b1 at hg1 ⊢;have hg1a:=(Ext.rsv h1).get hg1;refine zy ?_;refine ZAJ hmix [0,0,2,7,15] [1,2] (some 0) [([],(some 3)),([],(some 4)),([],none)] (by kernel_rfl) (by kernel_rfl) ?_;refine z_r ?_;refine ZCX (nk:=.sl _ _) rfl rfl rfl rfl rfl (fun _ _ hs=>N_bs hs Und.h Tsz.h Zr.h rfl rfl rfl rfl rfl) ?_;refine ZAH (h1:=(rsv h1)) [] (by kernel_rfl) rfl (ZAA rfl) rfl rfl (kF (kF nF)) (ZA6 (ZNx rfl rfl rfl rfl rfl Bod.h ZCZ (fun v24 h4 hv hw4=>?_)))
 obtain⟨hF24,hE4⟩:=hv;have hE14:=(Ext.rsv h1).trans hE4;have hnx4:h1.nx<h4.nx:=hE4.2.1;have hU4:=Upd.mk' h4 h1.nx (.cells (rowW x) 44 false);have hE4':=hU4.ext hE14 hW1 (Nat.le_refl _);have hw4':=hw4.upd hU4 hnx4;have hF24':=(hF24.updL hU4 (Nat.lt_succ_self _)).base (h0:=h1) (Ext.rsv h1).2.1;have hg4:=hU4.at';have hg14:=hE4'.get hg1;have hg14o:=hE14.get hg1;refine ZAH (h1:=(h4.set h1.nx (.cells (rowW x) 44 false))) [0,1,2] (by kernel_rfl) rfl (by refine ZHa (i:=2) (nk:=.sl _ _) rfl rfl rfl rfl rfl (fun _ _ hs=>N_bs hs Und.h Tsz.h Zr.h rfl rfl rfl rfl rfl) rfl ?_;refine t_r 1 ?_;exact ZAA rfl) rfl rfl (dF (dF nF)) (ZA6 (ZEk (by':=72) (k:=1) (n:=8) (l:=rowW x) rfl hW1 hw4' hE4' rfl rfl rfl rfl Und.h inferInstance rfl rfl hF24' ((ZAD.lit (h0:=h1) (n:=1) (sz:=6) hg4 rfl (Nat.le_refl _)).src (dd:=.slice 44) Und.h (by intro k;simp)) rfl rfl (by omega) (by omega) (fun v27 h5 hF27 hE5 hK5 hx5 hv5 hw5=>?_)))
 refine ZAH (h1:=h5) [0,1,2,3] (by kernel_rfl) rfl (ZAA rfl) rfl rfl nF (ZBW rfl rfl (ZAS rfl) ?_);refine ZAP (h1:=h5) (ZAA rfl) rfl ?_;refine zy ?_;refine ZAB (ZAC rfl ⟨?_,hE1.trans hE5⟩);rw[List.flatMap_append,List.flatMap_singleton];exact hF27.base hE1.2.1
abbrev xF82:List Nat:=[0,1,2,3,4,5,6,7,8,9]
set_option maxHeartbeats 4000000 in
theorem ZOy {v v':Value}{W:List WkO}{h:Heap}(h1:ZDJ h v W)(h2:ZDJ h v' W)(hlen:Len W)(hl:∀w∈W,Len w.1/\Len w.2.1):Sv Tryz.prog 28 [v,v'] h (RetP fun v h'=>v=.bool true/\h'=h):=by
 obtain⟨a,c,rfl,h1⟩:=h1;obtain⟨a',c',rfl,h2⟩:=h2;refine ZAF Tryz.func28 rfl (by rw[Tryz.ntmps28];rfl) ?_;show Wc Tryz.prog ⟨28,56,none⟩ _ _ _ _ _;refine zy ?_;refine zD (A_ff (fun q=>q rfl) (ZAo rfl rfl)) ?_;refine ZAO (fun (j:Nat) m ds h'=>ds=[]/\h=h'/\j<=W.length/\AllK m [(0,.slice a W.length c),(1,.slice a' W.length c'),(5,i64 (j:Nat))]) (fun j=>W.length-j) 0 ?_ ?_
 ·exact⟨rfl,rfl,Nat.zero_le _,rfl,rfl,rfl,trivial⟩
 rintro j m ds h' ⟨rfl,rfl,hj,hall⟩;refine Wc.le ?_ (Le.kn hall);clear hall;refine zy ?_;refine zC (ZAf rfl rfl) (fun hjl=>?_) (fun hjl=>?_);rotate_left
 ·refine zy ?_
  exact ZAB (ZAC rfl ⟨rfl,rfl⟩)
 have hj':j<W.length:=by omega
 obtain⟨b,o,oa,rfl,row,hr,an,cn,ai,ci,rfl,l1,l2⟩:=h1 j hj';obtain⟨b',o',oa',rfl,row',hr',an',cn',ai',ci',rfl,l1',l2'⟩:=h2 j hj';obtain⟨g1,g2⟩:=hl _ (List.getElem_mem hj');have q1:=ZIN (c:=cn) (c':=cn') l1 l1' g1;have q2:=ZIN (c:=ci) (c':=ci') l2 l2' g2;generalize W[j]=w at *;have k0:ZAZ h b (o+j*3+0)=some (.slice an w.1.length cn):=ZAQ (k:=0) hr rfl;have k1:ZAZ h b (o+j*3+1)=some (.slice ai w.2.1.length ci):=ZAQ (k:=1) hr rfl;have k2:ZAZ h b (o+j*3+2)=some (str w.2.2):=ZAQ (k:=2) hr rfl;have k0':ZAZ h b' (o'+j*3+0)=some (.slice an' w.1.length cn'):=ZAQ (k:=0) hr' rfl;have k1':ZAZ h b' (o'+j*3+1)=some (.slice ai' w.2.1.length ci'):=ZAQ (k:=1) hr' rfl
 have k2':ZAZ h b' (o'+j*3+2)=some (str w.2.2):=ZAQ (k:=2) hr' rfl;refine zy ?_;refine ZAJ hmix [0,0,3,7,15,0,0,96,224,480,1023,2047,4095,8191,8191,32767,65535,131071,8191,8191,794623,1843199,3940351,8388607,16777215,33554431,67108863,134217727,134217727,536870911,1073741823,2147483647,134217727,134217727,13019119615,30198988799,64558727167,137438953471,274877906943] xF82 (some 10) [([11,12,13,14,15,16,17,18,19,20,21,22],(some 23)),([24,25,26,27,28,29,30,31,32,33,34,35,36,37,38],none)] (by kernel_rfl) (by kernel_rfl) ?_;refine z_m ?_;refine z_m ?_;refine ZAE rfl rfl rfl rfl rfl (fun _=>A_ix (k:=j) Und.h Tsz.h rfl rfl) ?_;refine z_f ?_;refine z_l ?_;refine z_m ?_;refine z_m ?_;refine ZAE rfl rfl rfl rfl rfl (fun _=>A_ix (k:=j) Und.h Tsz.h rfl rfl) ?_;refine z_f ?_;refine z_l ?_
 refine ZAH xF82 (by kernel_rfl) rfl (ZAA rfl) rfl nb (dF (dF (dF (dF (dF (dF (dF (dF (dF (dF nF)))))))))) (ZAT rfl rfl rfl rfl rfl Bod.h q1 ?_);refine z_n ?_;refine z_m ?_;refine g_m ?_;refine g_m ?_
 first|refine ZAb rfl rfl rfl rfl ?_|refine ZAE rfl rfl rfl rfl rfl (fun _=>A_ix (k:=j) Und.h Tsz.h rfl rfl) ?_
 refine g_f ?_;refine g_l ?_;refine g_m ?_;refine g_m ?_
 first|refine ZAb rfl rfl rfl rfl ?_|refine ZAE rfl rfl rfl rfl rfl (fun _=>A_ix (k:=j) Und.h Tsz.h rfl rfl) ?_
 refine g_f ?_;refine g_l ?_;refine ZAH [0,1,2,3,4,5,6,7,8,9,10,11,12,13,14,15,16,17,18,19,20,21,22] (by kernel_rfl) rfl (ZAA rfl) rfl nb (dF (dF (dF (dF (dF (dF (dF (dF (dF (dF (dF (dF nF)))))))))))) (ZAT rfl rfl rfl rfl rfl Bod.h q2 ?_);refine g_n ?_;refine z_p ?_;refine z_m ?_;refine g_m ?_;refine g_m ?_
 first|refine ZAb rfl rfl rfl rfl ?_|refine ZAE rfl rfl rfl rfl rfl (fun _=>A_ix (k:=j) Und.h Tsz.h rfl rfl) ?_
 refine g_f ?_;refine g_l ?_;refine g_m ?_;refine g_m ?_
 first|refine ZAb rfl rfl rfl rfl ?_|refine ZAE rfl rfl rfl rfl rfl (fun _=>A_ix (k:=j) Und.h Tsz.h rfl rfl) ?_
 refine g_f ?_;refine g_l ?_
 first|refine ZAb rfl rfl rfl rfl ?_|refine ZAE rfl rfl rfl rfl rfl (fun _=>A_ff (fun q=>q rfl) (ZBF rfl rfl)) ?_
 refine z_p ?_;refine ZAP (ZAA rfl) nb' ?_;refine zy ?_;exact⟨j+1,(by show W.length-(j+1)<W.length-j;omega),rfl,rfl,hj',rfl,rfl,rfl,trivial⟩
theorem ZFR {α:Type}{enc:α->Value}{h:Heap}{b:Nat}{sp:Option Nat}{el:TypeId}{op:Bool}{l:List α}(hg:h.get b=some (.cells (l.map enc) el op)):ZA3 enc h (some ⟨b,0,sp⟩) l:=fun j hj=>⟨b,0,sp,rfl,by
 rw[Nat.zero_add];exact ZAl hg (by rw[ZAw,Nat.mul_one,List.getElem?_map,List.getElem?_eq_getElem hj];rfl)⟩
theorem ZTx:∀x∈catL++[ZJG],x.Fit:=by
 intro x hx;simp only[catL,ZJG,List.cons_append,List.nil_append,List.mem_cons,List.not_mem_nil,or_false] at hx
 rcases hx with rfl|rfl|rfl|rfl|rfl|rfl|rfl|rfl|rfl <;> exact⟨by decide,by decide,by decide⟩
theorem ZJN:∀x∈catL,x.Fit:=fun x hx=>ZTx x (List.mem_append_left _ hx)
theorem ZDJ.ext {h h':Heap}{v:Value}{W:List WkO}(hW:ZDJ h v W)(hE:Ext h h'):ZDJ h' v W:=by
 obtain⟨a,c,e,hw⟩:=hW;exact⟨a,c,e,ZAM.ext (R:=ZFe) (fun hr he=>ZFe.ext he hr) hw hE⟩
def catW:List WkO:=[([ZBu,ZER],[ZEE],ZL2),([ZMz],[ZL8],[])]
theorem ZS2 {h:Heap}{b b1 b2 b3 b4:Nat}{op o1 o2 o3 o4:Bool}(hg:h.get b=some (.cells [.slice (some ⟨b1,0,none⟩) 2 2,.slice (some ⟨b2,0,none⟩) 1 1,str ZL2,.slice (some ⟨b3,0,none⟩) 1 1,.slice (some ⟨b4,0,none⟩) 1 1,str []] 41 op))(h1:h.get b1=some (.cells [str ZBu,str ZER] 9 o1))(h2:h.get b2=some (.cells [str ZEE] 9 o2))(h3:h.get b3=some (.cells [str ZMz] 9 o3))(h4:h.get b4=some (.cells [str ZL8] 9 o4)):ZDJ h (.slice (some ⟨b,0,none⟩) 2 2) catW:=by
 refine⟨_,2,rfl,fun i hi=>?_⟩;have hi2:i<2:=hi
 rcases i with _|_|i
 ·exact⟨b,0,none,rfl,_,ZAV hg rfl,_,_,_,_,rfl,ZFR (l:=[ZBu,ZER]) h1,ZFR (l:=[ZEE]) h2⟩
 ·exact⟨b,0,none,rfl,_,ZAV hg rfl,_,_,_,_,rfl,ZFR (l:=[ZMz]) h3,ZFR (l:=[ZL8]) h4⟩
 ·omega
end Go.Dw
