/- DwZn: the logic: ranges over maps of the function's own, entry by entry. -/
import Derived.ChangeArms
import Derived.RowKit3
import Derived.SizedLaws
import Derived.WalkKit
import Derived.ProofKit
import Derived.OpenShut
import Derived.Deep.DeepHandedRow
import Derived.ReadAgain
import Derived.ChangeStays
import Derived.Test.YtphonfljfmedgaaGreatDoorAG2
import Derived.Test.YtphonfljfmedgaaGreatDoorAG1
set_option linter.unusedVariables false
set_option linter.unusedSimpArgs false
namespace Go.Dw
open Go Go.Dx
variable {P:Program}
section
variable {m:Mem}{h:Heap}{d:Option Tmp}{ty:TypeId}{pos:String}{af:Array Edge}{gu:Option (Nat×Bool)}
theorem ZMg {ι:Iota}:∀{l l':List MapEntry},MER ι l l'->l'.map (·.born)=l.map (·.born)
 | _,_,.nil=>rfl
 | _,_,.cons _ _ h3 h4=>by rw[List.map_cons,List.map_cons,h3,ZMg h4]
theorem ZTC {x:Operand}{r b since clock:Nat}{seen:Array Nat}{es:List MapEntry}{en:MapEntry}(hx:opk h m x=some (.pointer (some ⟨r,0,none⟩)))(hg:h.get r=some (.miter (some b) since (seen.push en.born) clock))(hgb:h.get b=some (.map es clock))(hen:en∈es)
  (hfl:flat en.key=true) (hnd:(es.map MapEntry.born).Nodup):Aop P ⟨d,.entry x,ty,pos,af,gu⟩ m h (.tuple ⟨[en.key,en.val]⟩) h:=by
 intro e hsat ι w a hr he;have hsv:=ZAD hr he (ZAJ hsat hx);generalize hz:a.eval x=z at hsv
 cases hsv with
 | @ptr _ _ ri hri =>
 obtain⟨o',hwr,hor⟩:=hr.objAt hg hri;obtain⟨bi,hbi,hwr'⟩:∃bi,ι b=some bi/\w.heap[ri.blk]?=some (.mapIter (some bi.blk) since (seen.push en.born) clock):=by
  cases o' with
  | mapIter m' s' q' c' =>
   cases m' with
   | none=>simp only[OR] at hor
   | some m' =>
    simp only[OR] at hor;obtain⟨rfl,rfl,rfl,bi,h1,rfl⟩:=hor;exact⟨bi,h1,hwr⟩
  | _=>simp only[OR] at hor
 obtain⟨es',hwb,hME⟩:=hr.mapAt hgb hbi;obtain⟨e',g1,g2,g3,g4⟩:=MER.mem2 hME _ hen;rw[<-g4] at hwr'
 have hrun:=run_entry_at (P:=P) w ri.blk bi.blk since seen es' clock e' hwr' hwb g1 (by
  have:es'.toList.map (·.born)=es.map (·.born):=ZMg hME
  rw[this];exact hnd)
 refine OpS.here (v':=.tuple #[e'.key,e'.val]) hr ?_ (VR.tup (.cons ?_ (.cons g3 .nil)))
 ·simp only[execOp,hz,Sem.run_bind,hrun,Result.andThen_ok,Sem.run_pure]
 ·rw[g2];exact VR.of_flat ι hfl
end
section maps
variable {t:TypeId} {α:Type} [DecidableEq α](K:KeyK P t α)
theorem KeyK.inj {a b:α}(h:K.enc a=K.enc b):a=b:=by
 have h1:=K.eq a b;have h2:=K.eq b b;rw[h] at h1;rw[h1] at h2
 simpa using h2
def ZRV (h:Heap)(b r:Nat)(l:List (α×Value))(V:List α):Prop :=
 ∃(es:List MapEntry) (clock since:Nat) (seen:Array Nat) (c0:Nat),h.get b=some (.map es clock)/\Ents K es l/\(es.map MapEntry.born).Nodup/\(∀e∈es,e.born<clock)/\h.get r=some (.miter (some b) since seen c0)/\since<=c0/\since<=clock/\(∀e∈es,e.born<since)/\∀e∈es,∀k,e.key=K.enc k->(seen.contains e.born=true ↔ k∈V)
def CurK (h:Heap)(b r:Nat)(k:α)(v:Value):Prop :=
 ∃(es:List MapEntry) (clock since:Nat) (seen:Array Nat) (e:MapEntry),h.get b=some (.map es clock)/\(es.map MapEntry.born).Nodup/\h.get r=some (.miter (some b) since (seen.push e.born) clock)/\e∈es/\e.key=K.enc k/\e.val=v
theorem ZRV.ne {h:Heap}{b r:Nat}{l:List (α×Value)}{V:List α}(hI:ZRV K h b r l V):b≠r:=by
 obtain⟨es,clock,since,seen,c0,h1,h2,h3,h4,h5,-⟩:=hI;rintro rfl;rw[h1] at h5;cases h5
def itI (b r:Nat)(l:List (α×Value))(V:List α):It where
 S:=fun c=>c=b\/c=r
 p:=fun h=>ZRV K h b r l V
 loc:=fun hk hp=>by
  obtain⟨es,clock,since,seen,c0,h1,h2,h3,h4,h5,h6⟩:=hp;exact⟨es,clock,since,seen,c0,hk _ _ (.inl rfl) h1,h2,h3,h4,hk _ _ (.inr rfl) h5,h6⟩
 ex:=fun hp hc=>by
  obtain⟨es,clock,since,seen,c0,h1,h2,h3,h4,h5,h6⟩:=hp
  rcases hc with rfl|rfl
  ·exact⟨_,h1⟩
  ·exact⟨_,h5⟩
theorem ZMj {es:List MapEntry}{l:List (α×Value)}(h:Ents K es l){e:MapEntry}(he:e∈es):∃k,(k,e.val)∈l/\e.key=K.enc k:=by
 unfold Ents at h;have:(e.key,e.val)∈es.map fun e=>(e.key,e.val):=List.mem_map.2 ⟨e,he,rfl⟩;rw[h] at this;obtain⟨p,h1,h2⟩:=List.mem_map.1 this;simp only[Prod.mk.injEq] at h2;exact⟨p.1,by rw[<-h2.2];exact h1,h2.1.symm⟩
theorem ZNp {es:List MapEntry}{l:List (α×Value)}(h:Ents K es l){p:α×Value}(hp:p∈l):∃e∈es,e.key=K.enc p.1/\e.val=p.2:=by
 unfold Ents at h;have:(K.enc p.1,p.2)∈l.map fun p=>(K.enc p.1,p.2):=List.mem_map.2 ⟨p,hp,rfl⟩;rw[<-h] at this;obtain⟨e,h1,h2⟩:=List.mem_map.1 this;simp only[Prod.mk.injEq] at h2;exact⟨e,h1,h2.1,h2.2⟩
theorem ZPr {es:List MapEntry}{l:List (α×Value)}(h:Ents K es l){i:Nat}(hi:i<es.length):∃hl:i<l.length,es[i].key=K.enc l[i].1:=by
 unfold Ents at h;have hlen:es.length=l.length:=by have:=congrArg List.length h;simpa using this
 refine⟨by omega,?_⟩;have h1:(es.map fun e=>(e.key,e.val))[i]?=(l.map fun p=>(K.enc p.1,p.2))[i]?:=by rw[h]
 rw[List.getElem?_map,List.getElem?_map,List.getElem?_eq_getElem hi,List.getElem?_eq_getElem (by omega)] at h1;simp only[Option.map_some,Option.some.injEq,Prod.mk.injEq] at h1;exact h1.1
theorem ZMw {l:List (α×Value)}(ho:Once l){p:α×Value}(hp:p∈l):lkp p.1 l=some p.2:=by
 induction l with
 | nil=>exact absurd hp List.not_mem_nil
 | cons q l ih =>
  unfold Once at ho;rw[List.map_cons,List.nodup_cons] at ho;unfold lkp
  rcases List.mem_cons.1 hp with rfl|hp
  ·rw[if_pos rfl]
  ·rw[if_neg (fun e=>ho.1 (by rw[<-e];exact List.mem_map.2 ⟨p,hp,rfl⟩))]
   exact ih ho.2 hp
theorem ZNh {l:List (α×Value)}{k:α}{v:Value}(h:lkp k l=some v):(k,v)∈l:=by
 induction l with
 | nil=>cases h
 | cons q l ih =>
  unfold lkp at h
  split at h
  ·rename_i e
   cases h;rw[e];exact List.mem_cons_self
  ·exact List.mem_cons_of_mem _ (ih h)
section
variable {fr:Fr}{m:Mem}{ds:List ADef}{h:Heap}{Q:CQ}{ops:Array Oper}{lo:List Oper}{d:Nat}{ty:TypeId}{pos:String}{af:Array Edge}{gu:Option (Nat×Bool)}
theorem ZJb {h0:Heap}{I:List It}{tm el:TypeId}{x:Operand}{b:Nat}{l:List (α×Value)}(he0:Ext h0 h)(hg:gk ops.toList m gu=some true)(hlt:Nat.blt d fr.nt=true)(hu:P.underlying tm=some (.map t el))(hx:opk h m x=some (.map (some b)))(hO:Own h0 h (mapI K b l::I))
  (hk:∀h1,WF h1->Own h0 h1 (itI K b h.nx l []::I)->Ext h h1->Wo P fr ops lo (upd m d (.pointer (some ⟨h.nx,0,none⟩))) ds h1 Q):Wo P fr ops (⟨some d,.range tm x,ty,pos,af,gu⟩::lo) m ds h Q:=by
 refine ZA4 fun hw=>?_;obtain⟨es,clock,h1,h2,h3,h4⟩:=hO.p1;refine ZPh hg (fun c' e=>by cases e) rfl hlt (ZM8 hu hx h1) ?_;have hE:=Ext.add hw (.miter (some b) clock #[] clock);refine hk _ (hw.add _) ?_ hE;have hO1:=hO.new (y:=loI h.nx (.miter (some b) clock #[] clock)) hw he0.2.1 hE Heap.get_add_same fun c hc=>by rw[show c=h.nx from hc];exact Nat.le_refl _
 refine hO1.merge (z:=itI K b h.nx l []) (fun hp hq=>?_) fun c hc=>?_
 ·exact⟨es,clock,clock,#[],clock,hE.get h1,h2,h3,h4,hp,Nat.le_refl _,Nat.le_refl _,h4,fun e _ k _=>by simp⟩
 ·rcases hc with rfl|rfl
  ·exact .inr rfl
  ·exact .inl rfl
theorem ZKd {h0:Heap}{I:List It}{x:Operand}{b r:Nat}{l:List (α×Value)}{V:List α}(hw0:WF h0)(he0:Ext h0 h)(hg:gk ops.toList m gu=some true)(hlt:Nat.blt d fr.nt=true)(hx:opk h m x=some (.pointer (some ⟨r,0,none⟩)))(hon:Once l)(hO:Own h0 h (itI K b r l V::I))
  (hk0:(∀k v,lkp k l=some v->k∈V)->Wo P fr ops lo (upd m d (.tuple ⟨[.bool false]⟩)) ds h Q)
  (hk1:∀k v h1,lkp k l=some v->k ∉ V->CurK K h1 b r k v->Own h0 h1 (itI K b r l (k::V)::I)->Ext h0 h1->Wo P fr ops lo (upd m d (.tuple ⟨[.bool true,K.enc k,v]⟩)) ds h1 Q):Wo P fr ops (⟨some d,.next x false,ty,pos,af,gu⟩::lo) m ds h Q:=by
 refine ZA4 fun hw=>?_;have hp:=hO.p1;have hne:=ZRV.ne K hp;obtain⟨es,clock,since,seen,c0,h1,h2,h3,h4,h5,h6,h69,h7,h8⟩:=hp;refine ZUv hg (fun c' e=>by cases e) rfl hlt (ZP0 hx h5 h1 (fun e he=>by obtain⟨k,-,e1⟩:=ZMj K h2 he;rw[e1];exact K.flat k) h7 h6) ?_;rintro v hh (⟨rfl,rfl,hall⟩|⟨e,he,hns,rfl,rfl⟩)
 ·refine hk0 fun k v hl=>?_
  obtain⟨e,g1,g2,-⟩:=ZNp K h2 (ZNh hl);exact (h8 e g1 k g2).1 (hall e g1)
 ·obtain⟨k,g1,g2⟩:=ZMj K h2 he
  have hl:=ZMw hon g1;rw[g2];have hU:=Upd.mk' h r (.miter (some b) since (seen.push e.born) clock);have hX:Exb (itI K b r l V).S h (h.set r (.miter (some b) since (seen.push e.born) clock)):=(Exb.ofUpd hU).mono fun c hc=>.inr hc;have gb:=hU.get hne h1;have gr:=hU.at';refine hk1 k e.val _ hl (fun q=>by rw[(h8 e he k g2).2 q] at hns;cases hns) ⟨es,clock,since,seen,e,gb,h3,gr,he,g2,rfl⟩ (hO.put hw he0.2.1 hX ?_ fun c hc=>.inl hc) (hO.grows hX he0 hw0);refine⟨es,clock,since,seen.push e.born,clock,gb,h2,h3,h4,gr,h69,h69,h7,fun e2 he2 k2 hk2=>?_⟩
  ·have hb:(e2.born=e.born) ↔ k2=k:=by
    constructor
    ·intro q
     obtain⟨i,hi,rfl⟩:=List.getElem_of_mem he2;obtain⟨j,hj,rfl⟩:=List.getElem_of_mem he;have hij:i=j:=(List.getElem_inj (h₀:=by simpa using hi) (h₁:=by simpa using hj) h3).1 (by simpa using q);subst hij;exact KeyK.inj K (hk2.symm.trans g2)
    ·rintro rfl
     obtain⟨i,hi,rfl⟩:=List.getElem_of_mem he2;obtain⟨j,hj,rfl⟩:=List.getElem_of_mem he;obtain⟨hil,ei⟩:=ZPr K h2 hi;obtain⟨hjl,ej⟩:=ZPr K h2 hj;have e1:=KeyK.inj K (ei.symm.trans hk2);have e2:=KeyK.inj K (ej.symm.trans g2);have hij:i=j:=(List.getElem_inj (h₀:=by simpa using hil) (h₁:=by simpa using hjl) hon).1 (by simp only[List.getElem_map];rw[e1,e2]);subst hij;rfl
   rw[List.mem_cons,Array.contains_push];rw[<-h8 e2 he2 k2 hk2,<-hb];simp[or_comm]
theorem ZOF {x:Operand}{b r:Nat}{k:α}{v:Value}(hg:gk ops.toList m gu=some true)(hlt:Nat.blt d fr.nt=true)(hx:opk h m x=some (.pointer (some ⟨r,0,none⟩)))(hC:CurK K h b r k v)
  (hk:Wo P fr ops lo (upd m d (.tuple ⟨[K.enc k,v]⟩)) ds h Q):Wo P fr ops (⟨some d,.entry x,ty,pos,af,gu⟩::lo) m ds h Q:=by
 obtain⟨es,clock,since,seen,e,h1,h2,h3,h4,h5,h6⟩:=hC;have hA:=ZTC (P:=P) (d:=some d) (ty:=ty) (pos:=pos) (af:=af) (gu:=gu) hx h3 h1 h4 (by rw[h5];exact K.flat k) h2;rw[h5,h6] at hA;exact ZPh hg (fun c' e=>by cases e) rfl hlt hA hk
theorem ZCs {d:Option Tmp}{o1:Oper}{Kk Kp:Value->List ADef->Heap->Prop}{h0:Heap}{I:List It}{tm el:TypeId}{x y z:Operand}{b:Nat}{l:List (α×Value)}{k:α}{v:Value}(ho1:o1=⟨d,.mapUpdate tm x y z,ty,pos,af,gu⟩)(hw0:WF h0)(he0:Ext h0 h)(hg:gk ops.toList m gu=some true)(hu:P.underlying tm=some (.map t el))(hx:opk h m x=some (.map (some b)))(hO:Own h0 h (mapI K b l::I))(hy:opk h m y=some (K.enc k))(hz:opk h m z=some v)
  (hk:∀h1,Own h0 h1 (mapI K b (setK k v l)::I)->Ext h0 h1->Kk (.tuple ⟨[]⟩) ds h1):W1 P fr ops o1 m ds h Kk Kp :=
 ZTT fun hw=>ZIe K ho1 hg hu hx hO.p1 hy hz fun h1 o hU hm=>hk h1 (hO.put hw he0.2.1 (Exb.ofUpd hU) hm fun _ hc=>.inl hc) (hO.grows (Exb.ofUpd hU) he0 hw0)
end
end maps
end Go.Dw
namespace Go.Dx
variable {P:Program}
end Go.Dx
namespace Go.Dw
open Go.Dx
variable {P:Program}
section
variable {fr:Fr}{m:Mem}{ds:List ADef}{h:Heap}{Q:CQ}{ops:Array Oper}{lo:List Oper}{o:Oper}
end
end Go.Dw
namespace Go.Dx
variable {P:Program}
end Go.Dx
namespace Go.Dw
open Go.Dx
variable {P:Program}
end Go.Dw
namespace Go.Dw
open Go.Dx
section
variable {P:Program}{m:Mem}{h:Heap}{d:Option Tmp}{ty:TypeId}{pos:String}{af:Array Edge}{gu:Option (Nat×Bool)}
theorem N_ms {e:Env}{t el:TypeId}{x y:Operand}{k sz by':Nat}{z:Value}{kx ky:IntKind}{n:Int}(hs:Sat m e)(ht:P.underlying t=some (.slice el))(hE:Elm P el sz by')(hZ:ZA9 P el=some z)(hx:opk h m x=some (.int kx n))(hy:opk h m y=some (.int ky n))(hk:n=(k:Int))(hb:by'*k<=281474976710656)(hb2:k<281474976710656) :
  ZDb P ⟨d,.makeSlice t x y,ty,pos,af,gu⟩ h e=some (.sl k k,.cells (rep k z.cells.toList) el false):=by
 subst hk;obtain⟨i,z',i1,i2,i3,i4,i5,i6⟩:=hE.h;rw[hZ] at i4;cases i4;have e1:Nat.ble k k=true:=Nat.ble_eq_true_of_le (Nat.le_refl _);have e2:Nat.ble (Nat.mul i.bytes k) 281474976710656=true:=Nat.ble_eq_true_of_le (by rw[i3];exact hb);have e3:Nat.blt k 281474976710656=true:=by rw[Nat.blt_eq];exact hb2
 have e4:Nat.beq z.cells.toList.length i.size=true:=by rw[i2];exact i5
 have e5:Nat.blt 0 i.size=true:=by rw[i2];exact i6
 unfold ZDb;simp only[ZAJ hs hx,ZAJ hs hy];have:ZEG P t (.int kx (k:Int)) (.int ky (k:Int))=some (rep k z.cells.toList,el,k,k):=by
  show ZEG P t (.int kx (Int.ofNat k)) (.int ky (Int.ofNat k))=_
  simp only[ZEG,ht,ZDC,i1,hZ,e1,e2,e3,e4,e5]
 simp only[this]
theorem ZQD {t el:TypeId}{x i j q:Operand}{b o len cap sz k n:Nat}{ki kj kq:IntKind}{y z:Int}(ht:P.underlying t=some (.slice el))(hz:tsz P el=some sz)(hx:opk h m x=some (.slice (some ⟨b,o,none⟩) len cap))(hi:opk h m i=some (.int ki y))(hj:opk h m j=some (.int kj z))(hq:opk h m q=some (.int kq z))(hy:y=(k:Int))(hk:z=(n:Int))(hlt:k<n)(hlc:n<=cap) :
  Aop P ⟨d,.slice t x (some i) (some j) (some q),ty,pos,af,gu⟩ m h (.slice (some ⟨b,o+k*sz,none⟩) (n-k) (n-k)) h :=
 ZAb fun e hs=>by
  subst hk;subst hy
  show ZBr P _ h e t x (some i) (some j) (some q)=_
  unfold ZBr;simp only[ZAJ hs hx,opvo,ZAJ hs hj,ZAJ hs hi,ZAJ hs hq];have:ZCJ P t (.slice (some ⟨b,o,none⟩) len cap) (some (.int ki (k:Int))) (some (.int kj (n:Int))) (some (.int kq (n:Int)))=some (.slice (some ⟨b,o+k*sz,none⟩) (n-k) (n-k)):=by
   have hb1:Nat.ble n cap=true:=Nat.ble_eq_true_of_le hlc;have hb2:Nat.ble k n=true:=Nat.ble_eq_true_of_le (Nat.le_of_lt hlt);have hb3:Nat.ble n n=true:=Nat.ble_eq_true_of_le (Nat.le_refl _);have hb4:Nat.beq n k=false:=by
    cases hq:Nat.beq n k with
    | false=>rfl
    | true=>have:=Nat.eq_of_beq_eq_true hq;omega
   unfold ZCJ;rw[ht];simp only
   show (match sb len cap (some (.int ki (Int.ofNat k))) (some (.int kj (Int.ofNat n))) (some (.int kq (Int.ofNat n))),tsz P el with|some (l,h,m),some n=>some (Value.slice (some ⟨b,@Bool.casesOn (fun _=>Nat) (Nat.beq m l) (Nat.add o (Nat.mul l n)) o,none⟩) (Nat.sub h l) (Nat.sub m l))|_,_=>none)=_
   rw[hz];have c1:bnd (some (.int kq (Int.ofNat n))) cap cap=some n:=by simp only[bnd,ZDC,hb1]
   have c2:bnd (some (.int kj (Int.ofNat n))) len n=some n:=by simp only[bnd,ZDC,hb3]
   have c3:bnd (some (.int ki (Int.ofNat k))) 0 n=some k:=by simp only[bnd,ZDC,hb2]
   simp only[sb,c1,c2,c3,hb4]
   rfl
  simp only[this]
theorem ZJn {t el:TypeId}{b n cc k z:Nat}{sp:Option Nat}{kj:IntKind}(ht:P.underlying t=some (.slice el))(hz:tsz P el=some (z+1))(hsp:sp=none\/sp=some (z+1))(hk:k<cc)(hkn:k<=n):ZCJ P t (.slice (some ⟨b,0,sp⟩) n cc) (some (.int kj (k:Int))) none none=some (.slice (some ⟨b,k*(z+1),sp⟩) (n-k) (cc-k)):=by
 have hb2:Nat.ble k n=true:=Nat.ble_eq_true_of_le hkn;have hb4:Nat.beq cc k=false:=by
  cases hq:Nat.beq cc k with
  | false=>rfl
  | true=>have:=Nat.eq_of_beq_eq_true hq;omega
 have c1:bnd none cc cc=some cc:=rfl;have c2:bnd none n cc=some n:=rfl;have c3:bnd (some (.int kj (Int.ofNat k))) 0 n=some k:=by simp only[bnd,ZDC,hb2]
 have hsb:sb n cc (some (.int kj (k:Int))) none none=some (k,n,cc):=by
  show sb n cc (some (.int kj (Int.ofNat k))) none none=_
  simp only[sb,c1,c2,c3]
 unfold ZCJ;rw[ht]
 rcases hsp with rfl|rfl
 ·simp only[hsb,hz,hb4]
  show some (Value.slice (some ⟨b,0+k*(z+1),none⟩) (n-k) (cc-k))=_
  rw[Nat.zero_add]
 ·have h1:Nat.blt 0 (z+1)=true:=by rw[Nat.blt_eq];omega
  have h2:Nat.blt k cc=true:=by rw[Nat.blt_eq];exact hk
  simp only[hsb,hz,h1,h2,Nat.beq_refl]
  cases hq:Nat.beq k 0 with
  | true =>
   have:=Nat.eq_of_beq_eq_true hq;subst this;simp
  | false =>
   show some (Value.slice (some ⟨b,0+k*(z+1),some (z+1)⟩) (n-k) (cc-k))=_
   rw[Nat.zero_add]
theorem ZSe {t el:TypeId}{b n cc k z:Nat}{sp:Option Nat}{kj:IntKind}{x i:Operand}(ht:P.underlying t=some (.slice el))(hz:tsz P el=some (z+1))(hsp:sp=none\/sp=some (z+1))(hk:k<cc)(hkn:k<=n)(hx:opk h m x=some (.slice (some ⟨b,0,sp⟩) n cc))(hi:opk h m i=some (.int kj (k:Int))):Aop P ⟨d,.slice t x (some i) none none,ty,pos,af,gu⟩ m h (.slice (some ⟨b,k*(z+1),sp⟩) (n-k) (cc-k)) h :=
 ZAb fun e hs=>by
  show ZBr P _ h e t x (some i) none none=_
  unfold ZBr;simp only[ZAJ hs hx,opvo,ZAJ hs hi,ZJn ht hz hsp hk hkn]
theorem ZNU {t el:TypeId}{b n cc k z:Nat}{sp:Option Nat}{kj:IntKind}(ht:P.underlying t=some (.slice el))(hz:tsz P el=some (z+1))(hsp:sp=none\/sp=some (z+1))(hk:k<=cc):ZCJ P t (.slice (some ⟨b,0,sp⟩) n cc) none (some (.int kj (k:Int))) none=some (.slice (some ⟨b,0,sp⟩) k cc):=by
 have hb2:Nat.ble k cc=true:=Nat.ble_eq_true_of_le hk;have c1:bnd none cc cc=some cc:=rfl;have c2:bnd (some (.int kj (Int.ofNat k))) n cc=some k:=by simp only[bnd,ZDC,hb2]
 have c3:bnd none 0 k=some 0:=rfl;have hsb:sb n cc none (some (.int kj (k:Int))) none=some (0,k,cc):=by
  show sb n cc none (some (.int kj (Int.ofNat k))) none=_
  simp only[sb,c1,c2,c3]
 unfold ZCJ;rw[ht]
 rcases hsp with rfl|rfl
 ·simp only[hsb,hz]
  cases hq:Nat.beq cc 0 with
  | true=>rfl
  | false =>
   show some (Value.slice (some ⟨b,0+0*(z+1),none⟩) (k-0) (cc-0))=_
   simp
 ·have h1:Nat.blt 0 (z+1)=true:=by rw[Nat.blt_eq];omega
  simp only[hsb,hz,h1,Nat.beq_refl]
theorem ZUV {t el:TypeId}{b n cc k z:Nat}{sp:Option Nat}{kj:IntKind}{x i:Operand}(ht:P.underlying t=some (.slice el))(hz:tsz P el=some (z+1))(hsp:sp=none\/sp=some (z+1))(hk:k<=cc)(hx:opk h m x=some (.slice (some ⟨b,0,sp⟩) n cc))(hi:opk h m i=some (.int kj (k:Int))):Aop P ⟨d,.slice t x none (some i) none,ty,pos,af,gu⟩ m h (.slice (some ⟨b,0,sp⟩) k cc) h :=
 ZAb fun e hs=>by
  show ZBr P _ h e t x none (some i) none=_
  unfold ZBr;simp only[ZAJ hs hx,opvo,ZAJ hs hi,ZNU ht hz hsp hk]
end
section
variable {P:Program}{fr:Fr}{m:Mem}{ds:List ADef}{h:Heap}{Q:CQ}{ops:Array Oper}{lo:List Oper}{d:Nat}{ty:TypeId}{pos:String}{af:Array Edge}{gu:Option (Nat×Bool)}
theorem ZS0 {t el e:TypeId}{c:Call}{s x:Operand}{b o n cap b2 o2 n2 cap2:Nat}{vs l r:List Value}{op:Bool}{ts:List TypeId}(hg:gk ops.toList m gu=some true)(hlt:Nat.blt d fr.nt=true)(hc:c.callee=.builtin .copy)(hargs:c.args=#[s,x])(hat:c.argTypes.toList=t::ts)(ht:P.underlying t=some (.slice el))(hz:tsz P el=some 1)
  (hs:opk h m s=some (.slice (some ⟨b,o,none⟩) n cap)) (hx:opk h m x=some (.slice (some ⟨b2,o2,none⟩) n2 cap2)) (hgt:h.get b=some (.cells vs e op)) (hr:rdc h b2 o2 (Nat.min n2 n)=some l) (h1:allOne l=true) (hlay:lay vs o l=some r)
  (hk:∀h',Upd h b (.cells r e op) h'->Wo P fr ops lo (upd m d (i64 (Int.ofNat (Nat.min n2 n)))) ds h' Q):Wo P fr ops (⟨some d,.call c,ty,pos,af,gu⟩::lo) m ds h Q:=by
 refine ZAk hg (by show ZB8 c.callee=true;rw[hc];rfl) rfl hlt (ZAb fun e hsat=>?_) (hk _ (Upd.mk' h b _))
 show ZCr P _ h e c=_
 unfold ZCr;rw[hc];simp only[hargs,hat,ZBV,ZAJ hsat hs,ZAJ hsat hx];have hr':rdc h b2 o2 (Nat.mul (Nat.min n2 n) 1)=some l:=by
  rw[show Nat.mul (Nat.min n2 n) 1=Nat.min n2 n from Nat.mul_one _];exact hr
 unfold ZRp;simp only[ht,hz,hgt,hr',h1,hlay]
end
def allI (I:List It):It where
 S:=fun c=>∃x∈I,x.S c
 p:=fun h=>∀x∈I,x.p h
 loc:=fun hk hp x hx=>x.loc (fun c o hc hg=>hk c o ⟨x,hx,hc⟩ hg) (hp x hx)
 ex:=fun hp ⟨x,hx,hc⟩=>x.ex (hp x hx) hc
def Foot (h h':Heap)(F:Heap->Prop):Prop:=∃y:It,Own h h' [y]/\∀k,y.p k->F k
theorem Foot.of {h h':Heap}{I:List It}{F:Heap->Prop}(hO:Own h h' I)(hF:∀k,(∀x∈I,x.p k)->F k):Foot h h' F :=
 ⟨allI I,⟨fun x hx=>by rw[List.mem_singleton.1 hx];exact hO.has,fun x hx c hc=>by
  rw[List.mem_singleton.1 hx] at hc;obtain⟨y,hy,hc⟩:=hc;exact hO.lo y hy c hc,List.pairwise_singleton _ _⟩,hF⟩
theorem Foot.ext {h h' k:Heap}{F:Heap->Prop}(hf:Foot h h' F)(he:Ext h' k):Foot h k F:=by
 obtain⟨y,hO,hF⟩:=hf;exact⟨y,hO.ext he,hF⟩
theorem Foot.base {h0 h h':Heap}{F:Heap->Prop}(hf:Foot h h' F)(hn:h0.nx<=h.nx):Foot h0 h' F:=by
 obtain⟨y,hO,hF⟩:=hf;exact⟨y,⟨hO.has,fun x hx c hc=>Nat.le_trans hn (hO.lo x hx c hc),hO.ap⟩,hF⟩
variable {P:Program}
def ZNi (P:Program) {σ β:Type}(g:FuncId)(cap:List Value)(h0:Heap)(X:σ->List It)(L:List β)(enc:β->Value):Prop :=
 ∀(l:Nat) (hL:Heap) (J:List It->List β->Heap->Prop),J [] [] hL->(∀I pre h',J I pre h'->Ext h0 h'/\∃s R,Own h0 h' (X s++(I++R))) →
  (∀I I' pre h1 h2,J I pre h1->(∀R,Own h0 h1 (I++R)->Ext h0 h1->Own h0 h2 (I'++R)/\Ext h0 h2)->J I' pre h2) →
  (∀I pre x post h',L=pre++x::post->J I pre h'->Yd P l [enc x] h' (fun v h''=>v=.bool true/\J I (pre++[x]) h''))->Sv P g (.func (.yield l) ⟨[]⟩ ⟨[]⟩::cap) hL (RetP fun _ h'=>∃I,J I L h')
theorem ZGm {σ β:Type}{fr:Fr}{m:Mem}{ds:List ADef}{h h0:Heap}{Q:CQ}{f:Operand}{p:Tmp}{asg bd:Code}{g:FuncId}{cap:List Value}{X:σ->List It}{ok:List β->σ->Prop}{L:List β}{enc:β->Value}{q:Tmp}{cs:β->List Value}{el:TypeId}{op:Bool}{s0:σ}
  (hrd:fr.rd=none) (hf:opk h m f=some (.func (.func g) ⟨[]⟩ ⟨cap⟩)) (hb:ZAy P g=true) (hlt:Nat.blt p fr.nt=true)
  (hw0:WF h0) (hE:Ext h0 h) (hO:Own h0 h (X s0)) (hok:ok [] s0)
  (hit:ZNi P g cap h0 X L enc)
  (hasg:∀l x h',Wc P ⟨fr.fn,fr.nt,some l⟩ asg (upd m p (enc x)) [] h' (fun y m1 ds1 h1=>y=.normal/\ds1=[]/\m1=upd (upd m p (enc x)) q (.pointer (some ⟨h'.nx,0,none⟩))/\Ext h' h1/\h1.get h'.nx=some (.cells (cs x) el op)))
  (hbody:∀l bn pre x post s h' R,L=pre++x::post->ok pre s->Own h0 h' (ceI bn (cs x) el op::(X s++R))->Ext h0 h' →
   Wc P ⟨fr.fn,fr.nt,some l⟩ bd (upd (upd m p (enc x)) q (.pointer (some ⟨bn,0,none⟩))) [] h' (fun y _ _ h''=>y=.normal/\∃s',ok (pre++[x]) s'/\Own h0 h'' (X s'++R)/\Ext h0 h''))
  (hQ:∀s h'',ok L s->Own h0 h'' (loI h.nx .defd::X s)->Ext h0 h''->Q .normal m (.coll h.nx::ds) h''):Wc P fr (.rangeFunc f #[p] asg bd) m ds h Q:=by
 refine ZBg fun hw=>ZJT hrd hf hb fun e hs hL hEL hWL hnL hLr hLl=>?_;have hO1:Own h0 hL (loI h.nx .defd::X s0):=hO.new hw hE.2.1 hEL hLr fun c hc=>by rw[show c=h.nx from hc];exact Nat.le_refl _
 have hO2:Own h0 hL (loI (h.nx+1) (.loop .ready none fr.fn fr.nt e #[p] asg bd h.nx)::loI h.nx .defd::X s0):=by
  refine⟨fun x hx=>?_,fun x hx c hc=>?_,List.pairwise_cons.2 ⟨fun z hz c hc hzc=>?_,hO1.ap⟩⟩
  ·rcases List.mem_cons.1 hx with rfl|hx
   ·exact hLl
   ·exact hO1.has x hx
  ·rcases List.mem_cons.1 hx with rfl|hx
   ·rw[show c=h.nx+1 from hc];have:=hE.2.1;omega
   ·exact hO1.lo x hx c hc
  ·rw[show c=h.nx+1 from hc] at hzc
   rcases List.mem_cons.1 hz with rfl|hz
   ·exact absurd (show h.nx+1=h.nx from hzc) (by omega)
   ·obtain⟨o,ho⟩:=z.ex (hO.has z hz) hzc
    have:=hw _ _ ho;omega
 have hE1L:=hE.trans hEL;generalize hrec:AO.loop LoopState.ready none fr.fn fr.nt e #[p] asg bd h.nx=rec at hO2
 let J:List It->List β->Heap->Prop:=fun I pre h'=>∃s,ok pre s/\Own h0 h' ((X s++I)++[loI (h.nx+1) rec,loI h.nx .defd])/\Ext h0 h'
 have toJ:∀{Z h' o},Own h0 h' (loI (h.nx+1) o::loI h.nx .defd::Z)->Own h0 h' (Z++[loI (h.nx+1) o,loI h.nx .defd]):=fun hO=>hO.perm (List.perm_append_comm (l₁:=[_,_]));have ofJ:∀{Z h' o},Own h0 h' (Z++[loI (h.nx+1) o,loI h.nx .defd])->Own h0 h' (loI (h.nx+1) o::loI h.nx .defd::Z):=fun hO=>hO.perm (List.perm_append_comm (l₂:=[_,_]));refine (hit (h.nx+1) hL J ⟨s0,hok,by rw[List.append_nil];exact toJ hO2,hE1L⟩ (fun I pre h' ⟨s,_,h1,h2⟩=>⟨h2,s,_,by rw[List.append_assoc] at h1;exact h1⟩) (fun I I' pre h1 h2 ⟨s,k1,k2,k3⟩ hT=>?_) (fun I pre x post h' hsp hJ=>?_)).ret ?_
 ·have k2':Own h0 h1 (I++(X s++[loI (h.nx+1) rec,loI h.nx .defd])):=k2.perm (by
   rw[<-List.append_assoc];exact (List.perm_append_comm).append_right _)
  obtain⟨k4,k5⟩:=hT _ k2' k3;exact⟨s,k1,k4.perm (by rw[<-List.append_assoc];exact (List.perm_append_comm).append_right _),k5⟩
 ·obtain⟨s,hoks,hOs,hEs⟩:=hJ
  have hl':h'.get (h.nx+1)=some rec:=(ofJ hOs).p1;rw[<-hrec] at hl'
  refine ZMY hl' hs rfl (by
   show ([p].all fun p=>Nat.blt p fr.nt)=true
   simp[hlt]) ?_
  refine ZBg fun hw'=>(hasg (h.nx+1) x h').mono ?_;rintro y m1 ds1 h1 ⟨rfl,rfl,rfl,hE1,hg1⟩;have hl1:=hE1.get hl';refine⟨rfl,rfl,_,_,_,_,_,_,_,_,hl1,?_⟩;generalize hAO:AO.loop LoopState.busy none fr.fn fr.nt e #[p] asg bd h.nx=bo;have hU:=Upd.mk' h1 (h.nx+1) bo;have hO3:Own h0 h1 (ceI h'.nx (cs x) el op::((X s++I)++[loI (h.nx+1) rec,loI h.nx .defd])):=hOs.newCe hw' hEs.2.1 hE1 hg1 (Nat.le_refl _);have hO4:Own h0 h1 (loI (h.nx+1) rec::ceI h'.nx (cs x) el op::loI h.nx .defd::(X s++I)):=(hO3.perm (List.Perm.cons _ (List.perm_append_comm (l₂:=[_,_])))).up2;obtain⟨hO5,hE5⟩:=hO4.loSet hw0 (hEs.trans hE1) hU
  generalize h1.set (h.nx+1) bo=h2 at *;have hO6:Own h0 h2 (ceI h'.nx (cs x) el op::((X s++I)++[loI (h.nx+1) bo,loI h.nx .defd])):=hO5.up2.perm (List.Perm.cons _ (List.perm_append_comm (l₁:=[_,_])));rw[List.append_assoc] at hO6;refine (hbody (h.nx+1) h'.nx pre x post s h2 _ hsp hoks hO6 hE5).mono ?_;rintro y m3 ds3 h3 ⟨rfl,s',hoks',hO7,hE7⟩;rw[<-List.append_assoc] at hO7;have hl3:h3.get (h.nx+1)=some bo:=(ofJ hO7).p1;rw[<-hAO] at hl3;refine⟨none,_,_,_,_,_,_,_,_,_,rfl,hl3,rfl,s',hoks',?_⟩;have hU8:=Upd.mk' h3 (h.nx+1) rec;obtain⟨hO8,hE8⟩:=(ofJ hO7).loSet hw0 hE7 hU8;rw[<-hrec] at hO8 hE8 ⊢;exact⟨toJ hO8,hE8⟩
 ·rintro v h' ⟨I,s,hoks,hOs,hEs⟩
  have hl':h'.get (h.nx+1)=some rec:=(ofJ hOs).p1;rw[<-hrec] at hl';refine⟨.ready,none,_,_,_,_,_,_,_,hl',by simp,fun _=>?_,fun c hc=>nomatch hc⟩;generalize hAO:AO.loop LoopState.exhausted _ _ _ _ _ _ _ _=bo;obtain⟨k1,k2⟩:=(ofJ hOs).loSet hw0 hEs (Upd.mk' h' (h.nx+1) bo);exact hQ s _ hoks (k1.tail.sub (List.Sublist.cons_cons _ (List.sublist_append_left _ _))) k2
end Go.Dw
namespace Go.Dw
open Go Go.Dx
theorem ZR8 {P:Program}{m:Mem}{h:Heap}{d:Option Tmp}{ty:TypeId}{pos:String}{af:Array Edge}{gu:Option (Nat×Bool)}{t tz:TypeId}{x y:Operand}{a b:Bool}(hu:P.underlying t=some .bool)(hx:opk h m x=some (.bool a))(hy:opk h m y=some (.bool b)):Aop P ⟨d,.binOp .neq t x y tz,ty,pos,af,gu⟩ m h (.bool (decide (¬a=b))) h :=
 ZCe hx hy rfl rfl rfl fun w=>by
  have h1:(Op.equal t (.bool a) (.bool b)).run P w=.ok (a == b) w:=run_equalIn_bool w (Op.maxDepth-1) t a b hu;simp[eqGuard,binOp,go_sem,h1];cases a <;> cases b <;> rfl
end Go.Dw
namespace Go.Dw
open Go.Dx
section
variable {P:Program}{m:Mem}{h:Heap}{d:Option Tmp}{ty:TypeId}{pos:String}{af:Array Edge}{gu:Option (Nat×Bool)}
theorem ZLD {t el:TypeId}{b o len cap k sz:Nat}{kj:IntKind}(ht:P.underlying t=some (.slice el))(hz:tsz P el=some sz)(hk:k<=len):ZCJ P t (.slice (some ⟨b,o,none⟩) len cap) (some (.int kj (k:Int))) none none=some (.slice (some ⟨b,if cap=k then o else o+k*sz,none⟩) (len-k) (cap-k)):=by
 have hb2:Nat.ble k len=true:=Nat.ble_eq_true_of_le hk;have c3:bnd (some (.int kj (Int.ofNat k))) 0 len=some k:=by simp only[bnd,ZDC,hb2]
 have hsb:sb len cap (some (.int kj (k:Int))) none none=some (k,len,cap):=by
  show sb len cap (some (.int kj (Int.ofNat k))) none none=_
  have c1:bnd none cap cap=some cap:=rfl;have c2:bnd none len cap=some len:=rfl;simp only[sb,c1,c2,c3]
 unfold ZCJ;rw[ht];simp only;rw[hsb,hz];simp only
 by_cases hc:cap=k
 ·subst hc
  have hb:Nat.beq cap cap=true:=Nat.beq_refl cap;rw[if_pos rfl,hb]
  rfl
 ·have hb:Nat.beq cap k=false:=by
   cases hq:Nat.beq cap k with
   | false=>rfl
   | true=>exact absurd (Nat.eq_of_beq_eq_true hq) hc
  rw[if_neg hc,hb]
  rfl
theorem ZGu {t el:TypeId}{x i:Operand}{b o len cap k sz:Nat}{kj:IntKind}(ht:P.underlying t=some (.slice el))(hz:tsz P el=some sz)(hk:k<=len)(hx:opk h m x=some (.slice (some ⟨b,o,none⟩) len cap))(hi:opk h m i=some (.int kj (k:Int))) :
  Aop P ⟨d,.slice t x (some i) none none,ty,pos,af,gu⟩ m h (.slice (some ⟨b,if cap=k then o else o+k*sz,none⟩) (len-k) (cap-k)) h :=
 ZAb fun e hs=>by
  show ZBr P _ h e t x (some i) none none=_
  unfold ZBr;simp only[ZAJ hs hx,opvo,ZAJ hs hi,ZLD ht hz hk]
theorem ZLy {t:TypeId}{x:Operand}{p v:Value}(hx:opk h m x=some p)(hv:ZCJ P t p none none none=some v):Aop P ⟨d,.slice t x none none none,ty,pos,af,gu⟩ m h v h :=
 ZAb fun e hs=>by
  show ZBr P _ h e t x none none none=_
  unfold ZBr;simp only[ZAJ hs hx,opvo,hv]
end
end Go.Dw
namespace Go.Dx
variable {P:Program}{V:Nat->Nat->Bool}
noncomputable def roT (lim:Nat):List Obj->Nat->Tr AO->Tr AO
 | [],_,t=>t
 | o::l,k,t=>roT lim l (k+1) (tset t k (some (.ro lim o)))
theorem ZSH (lim:Nat):∀(l:List Obj)(k:Nat)(t:Tr AO)(b:Nat),tget (roT lim l k t) b=if k<=b/\b<k+l.length then (l[b-k]?).map (.ro lim) else tget t b:=by
 intro l
 induction l with
 | nil=>intro k t b;simp only[roT,List.length_nil];rw[if_neg (by omega)]
 | cons o l ih =>
  intro k t b;rw[roT,ih]
  by_cases h1:k+1<=b/\b<k+1+l.length
  ·rw[if_pos h1,if_pos (by simp;omega)]
   have:b-k=(b-(k+1))+1:=by omega
   rw[this,List.getElem?_cons_succ]
  ·rw[if_neg h1]
   by_cases h2:b=k
   ·subst h2;rw[ZAh,if_pos (by simp)];simp
   ·rw[ZB9 _ _ _ _ h2,if_neg (by simp;omega)]
noncomputable def roH (lim gl:Nat)(w:World):Heap:=⟨roT lim w.heap.toList 0 .e,lim,gl⟩
theorem ZIt (lim gl:Nat)(w:World)(b:Nat):(roH lim gl w).get b=(w.heap[b]?).map (.ro lim):=by
 show tget (roT lim w.heap.toList 0 .e) b=_
 rw[ZSH]
 by_cases h:b<w.heap.size
 ·rw[if_pos (by simpa using h)];simp
 ·rw[if_neg (by simpa using h),ZRy];simp[Array.getElem?_eq_none (Nat.le_of_not_lt h)]
def idI (lim:Nat):Iota:=fun b=>if b<lim then some ⟨b,0,0⟩ else none
theorem ZJL {lim b:Nat}(h:b<lim):idI lim b=some ⟨b,0,0⟩:=if_pos h
theorem ZUB {lim gl:Nat}{w:World}(hs:w.heap.size<=lim)(hg:gl<=lim):HR (idI lim) (roH lim gl w) w.heap where
 obj:=fun b o hb=>by
  rw[ZIt] at hb
  cases hq:w.heap[b]? with
  | none=>rw[hq] at hb;cases hb
  | some x =>
   rw[hq] at hb;cases hb;have hlt:b<w.heap.size:=(Array.getElem?_eq_some_iff.1 hq).1;refine⟨⟨b,0,0⟩,x,ZJL (by omega),hq,?_⟩;simp only[OR];exact⟨trivial,fun c hc=>⟨⟨c,0,0⟩,ZJL hc,rfl⟩⟩
 inj:=fun b b' o o' bi bi' h1 h2 i1 i2 heq=>by
  unfold idI at i1 i2
  split at i1
  ·split at i2
   ·cases i1;cases i2;exact heq
   ·cases i2
  ·cases i1
 fresh:=fun b bi hb=>by
  unfold idI at hb
  split at hb
  ·assumption
  ·cases hb
 glo:=fun g bi _ hb=>by
  unfold idI at hb
  split at hb
  ·cases hb;rfl
  ·cases hb
 gn:=hg
def Ext (h h':Heap):Prop:=(∀b o,h.get b=some o->h'.get b=some o)/\h.nx<=h'.nx/\h'.gl=h.gl
theorem Ext.refl (h:Heap):Ext h h:=⟨fun _ _ x=>x,Nat.le_refl _,rfl⟩
theorem Ext.trans {h h1 h2:Heap}(a:Ext h h1)(b:Ext h1 h2):Ext h h2:=⟨fun c o x=>b.1 c o (a.1 c o x),Nat.le_trans a.2.1 b.2.1,b.2.2.trans a.2.2⟩
theorem ZKr {lim gl:Nat}{w w':World} {ι':Iota}{h':Heap}(ha:Adv (idI lim) (roH lim gl w) w ι' h' w')(hr:HR ι' h' w'.heap)(hs:w.heap.size<=lim)(he:Ext (roH lim gl w) h'):Unch w w':=by
 refine⟨ha.sz,fun c hc=>?_,ha.os,ha.out⟩;obtain⟨x,hx⟩:∃x,w.heap[c]?=some x:=⟨_,Array.getElem?_eq_getElem hc⟩;obtain⟨bi,o',i1,hw,ho⟩:=hr.obj c (.ro lim x) (he.1 _ _ (by rw[ZIt,hx];rfl));have i2:=ha.sub c ⟨c,0,0⟩ (ZJL (by omega));rw[i2] at i1;cases i1;simp only[OR] at ho;rw[hw,hx,ho.1]
end Go.Dx
namespace Go.Dw
open Go.Dx
variable {H:Type}{enc:TypeId×Value->H}{P:Program}{W:World}{t e:TypeId}{cs:List Value}
noncomputable abbrev ro (W:World):Heap:=roH W.heap.size W.heap.size W
def Rd (enc:TypeId×Value->H)(P:Program)(W:World)(t:TypeId)(cs:List Value):Prop:=∃n x,DataW.trod enc P W 0 (fun _=>true) true n t cs=some x
theorem ZCC (ht:P.underlying t=some (.int .i64))(h:Rd enc P W t cs):∃n,cs=[i64 n]/\I64 n:=by
 obtain⟨m,x,hx⟩:=h;obtain⟨n,h1,_,h3⟩:=DataW.trod_int ht hx;refine⟨n,h1,?_⟩;simp[Lit.wf] at h3;have h4:IntKind.i64.min = -9223372036854775808:=by decide
 have h5:IntKind.i64.max=9223372036854775807:=by decide
 omega
theorem ZDB {fs:Array Field}(ht:P.underlying t=some (.struct fs))(h:Rd enc P W t cs):cs.length=P.cellsOf t/\∀(i:Nat)(f:Field),fs[i]?=some f->Rd enc P W f.type ((cs.drop f.offset).take (P.cellsOf f.type)):=by
 obtain⟨m,x,hx⟩:=h;obtain⟨xs,n,_,_,h1,h2,h3⟩:=DataW.trod_struct ht hx;refine⟨h1,fun i f hi=>?_⟩;have:=h3 i f hi;have hlt:i<xs.length:=by rw[h2];exact (Array.getElem?_eq_some_iff.1 hi).1
 rw[List.getElem?_eq_getElem hlt] at this;exact⟨n,_,this⟩
theorem ZQc {α β:Type}{f:α->Option β}:∀{l:List α}{r:List β},l.mapM f=some r->l.length=r.length/\∀(i:Nat) a,l[i]?=some a->f a=r[i]?:=by
 intro l
 induction l with
 | nil=>intro r h;simp at h;subst h;exact⟨rfl,fun i a h=>by simp at h⟩
 | cons x l ih =>
  intro r h;rw[List.mapM_cons] at h
  cases hx:f x with
  | none=>rw[hx] at h;cases h
  | some y =>
   rw[hx] at h
   cases hl:l.mapM f with
   | none=>rw[hl] at h;cases h
   | some ys =>
    rw[hl] at h;cases h;obtain⟨h1,h2⟩:=ih hl;refine⟨by simp[h1],fun i a hi=>?_⟩
    cases i with
    | zero=>simp at hi;subst hi;simpa using hx
    | succ i=>simp at hi ⊢;exact h2 i a hi
theorem ZEJ {x:Addr}{n:Nat}{row:List Value}(h:W.cells? 0 x n=some row)(hn:0<n):x.spot=none/\∃c t fz,W.heap[x.block]?=some (.cells c t fz)/\cut c.toList x.off n=some row:=by
 unfold World.cells? at h;rw[if_pos (Nat.zero_le _)] at h;obtain⟨h1,h2⟩:=ZQc h;have h1':row.length=n:=by simpa using h1.symm
 have key:∀i,i<n->W.cell? (x.add i)=row[i]?:=fun i hi=>h2 i i (by simp[hi]);have k0:=key 0 hn;have e0:x.add 0=x:=by simp[Addr.add]
 rw[e0,List.getElem?_eq_getElem (by omega)] at k0;unfold World.cell? at k0
 cases hb:W.heap[x.block]? with
 | none=>rw[hb] at k0;cases k0
 | some ob =>
  rw[hb] at k0
  cases ob with
  | cells c t fz =>
   simp only at k0;have hsp:x.spot=none:=by
    cases hs:x.spot with
    | none=>rfl
    | some y=>rw[hs] at k0;simp at k0
   refine⟨hsp,c,t,fz,rfl,?_⟩;have hget:∀i,i<n->c.toList[x.off+i]?=row[i]?:=by
    intro i hi;have:=key i hi;rw[<-this];unfold World.cell?;have hblk:(x.add i).block=x.block:=by unfold Addr.add;split <;> rfl
    have hspt:(x.add i).spot=none:=by unfold Addr.add;split <;> simp[hsp]
    have hoff:(x.add i).off=x.off+i:=by unfold Addr.add;split <;> simp_all
    rw[hblk,hb];simp only[hspt,hoff];simp
   have hlt:x.off+n<=c.toList.length:=by
    have:=hget (n-1) (by omega);rw[List.getElem?_eq_getElem (show n-1<row.length by omega)] at this;have:=(List.getElem?_eq_some_iff.1 this).1;omega
   unfold cut;have hb2:Nat.ble (Nat.add x.off n) c.toList.length=true:=Nat.ble_eq_true_of_le hlt;rw[hb2];simp only
   congr 1
   apply List.ext_getElem?;intro i;rw[List.getElem?_take]
   split
   ·rename_i hi
    rw[List.getElem?_drop];exact hget i hi
   ·rename_i hi
    rw[List.getElem?_eq_none (by omega)]
  | _=>cases k0
theorem ZSB {b o lim len cap:Nat}(h:Nat.blt b lim=true):okv lim (.slice (some ⟨b,o,none⟩) len cap)=true:=by
 cases len <;> cases cap <;> first|rfl|exact h
theorem ZRW (ht:P.underlying t=some (.slice e))(hz:0<P.cellsOf e)(h:Rd enc P W t cs):∃v a len cap,cs=[v]/\okv W.heap.size v=true/\nz v=.slice a len cap/\len<9223372036854775808 ∧
  ∀i,i<len->∃b o,a=some ⟨b,o,none⟩/\∃row c t fz,W.heap[b]?=some (.cells c t fz)/\cut c.toList (o+i*P.cellsOf e) (P.cellsOf e)=some row/\Rd enc P W e row:=by
 have h5:maxLen=9223372036854775807:=by decide
 obtain⟨m,x,hx⟩:=h
 rcases DataW.trod_slice ht hx with ⟨h1,_⟩|⟨a,len,cap,elems,rest,n,_,h1,_,_,hlc,hcm,hel,he,hr,_⟩
 ·exact⟨_,none,0,0,h1,rfl,rfl,by decide,fun i hi=>by omega⟩
 ·have hread:∀i,i<cap->∃row,W.cells? 0 (a.add (i*P.cellsOf e)) (P.cellsOf e)=some row/\Rd enc P W e row:=by
   intro i hi;have:∃y,(W.cells? 0 (a.add (i*P.cellsOf e)) (P.cellsOf e)).bind (DataW.trod enc P W 0 (fun _=>true) true n e)=some y:=by
    rcases Nat.lt_or_ge i len with g|g
    ·have:=he i g
     rw[List.getElem?_eq_getElem (by omega)] at this;exact⟨_,this⟩
    ·obtain⟨hr1,hr2⟩:=hr rfl
     have:=hr2 (i-len) (by omega);rw[List.getElem?_eq_getElem (by omega),show len+(i-len)=i by omega] at this;exact⟨_,this⟩
   obtain⟨y,hy⟩:=this
   cases hc:W.cells? 0 (a.add (i*P.cellsOf e)) (P.cellsOf e) with
   | none=>rw[hc] at hy;cases hy
   | some row=>rw[hc] at hy;exact⟨row,rfl,n,y,hy⟩
  by_cases hcap:cap=0
  ·have hlen:len=0:=by omega
   subst hcap;subst hlen;exact⟨_,some ⟨0,0,some 0⟩,0,0,h1,rfl,rfl,by decide,fun i hi=>by omega⟩
  ·obtain⟨row0,hc0,_⟩:=hread 0 (by omega)
   have e0:a.add (0*P.cellsOf e)=a:=by simp[Addr.add]
   rw[e0] at hc0;obtain⟨hsp,c,t',fz,hb,_⟩:=ZEJ hc0 hz;obtain⟨b,o,sp⟩:=a;simp only at hsp hb;subst hsp;have hlt:b<W.heap.size:=(Array.getElem?_eq_some_iff.1 hb).1;have hne:¬(len=0/\cap=0):=fun h=>hcap h.2;refine⟨_,some ⟨b,o,none⟩,len,cap,h1,?_,?_,by omega,fun i hi=>⟨b,o,rfl,?_⟩⟩
   ·have hbl:Nat.blt b W.heap.size=true:=by rw[Nat.blt_eq];exact hlt
    exact ZSB hbl
   ·unfold nz
    split
    ·rename_i hq;simp only[Value.slice.injEq] at hq;exact absurd ⟨hq.2.1,hq.2.2⟩ hne
    ·rfl
   ·obtain⟨row,hc,hrd⟩:=hread i (by omega)
    obtain⟨_,c1,t1,fz1,hb1,hcut⟩:=ZEJ hc hz;have hblk:((⟨b,o,none⟩:Addr).add (i*P.cellsOf e)).block=b:=by unfold Addr.add;split <;> rfl
    have hoff:((⟨b,o,none⟩:Addr).add (i*P.cellsOf e)).off=o+i*P.cellsOf e:=by unfold Addr.add;split <;> simp_all
    rw[hblk] at hb1;rw[hoff] at hcut;exact⟨row,c1,t1,fz1,hb1,hcut,hrd⟩
theorem ZOA (ht:P.underlying t=some (.slice e))(hz:0<P.cellsOf e)(h:Rd enc P W t cs):∃v a len cap,cs=[v]/\nz v=.slice a len cap/\(len=0->a=none\/(∃b o,a=some ⟨b,o,some 0⟩)\/∃b o c t fz,a=some ⟨b,o,none⟩/\W.heap[b]?=some (.cells c t fz)/\o<=c.size):=by
 obtain⟨m,x,hx⟩:=h
 rcases DataW.trod_slice ht hx with ⟨h1,_⟩|⟨a,len,cap,elems,rest,n,_,h1,_,_,hlc,hcm,hel,he,hr,_⟩
 ·exact⟨_,none,0,0,h1,rfl,fun _=>.inl rfl⟩
 ·by_cases hcap:cap=0
  ·have hlen:len=0:=by omega
   subst hcap;subst hlen;exact⟨_,some ⟨0,0,some 0⟩,0,0,h1,rfl,fun _=>.inr (.inl ⟨0,0,rfl⟩)⟩
  ·have hread:∃row,W.cells? 0 a (P.cellsOf e)=some row:=by
    have:∃y,(W.cells? 0 (a.add (0*P.cellsOf e)) (P.cellsOf e)).bind (DataW.trod enc P W 0 (fun _=>true) true n e)=some y:=by
     rcases Nat.lt_or_ge 0 len with g|g
     ·have:=he 0 g
      rw[List.getElem?_eq_getElem (by omega)] at this;exact⟨_,this⟩
     ·obtain⟨hr1,hr2⟩:=hr rfl
      have:=hr2 (0-len) (by omega);rw[List.getElem?_eq_getElem (by omega),show len+(0-len)=0 by omega] at this;exact⟨_,this⟩
    obtain⟨y,hy⟩:=this;have e0:a.add (0*P.cellsOf e)=a:=by simp[Addr.add]
    rw[e0] at hy
    cases hc:W.cells? 0 a (P.cellsOf e) with
    | none=>rw[hc] at hy;cases hy
    | some row=>exact⟨row,rfl⟩
   obtain⟨row0,hc0⟩:=hread;obtain⟨hsp,c,t',fz,hb,hcut⟩:=ZEJ hc0 hz;obtain⟨b,o,sp⟩:=a;simp only at hsp hb hcut;subst hsp;have hne:¬(len=0/\cap=0):=fun h=>hcap h.2;refine⟨_,some ⟨b,o,none⟩,len,cap,h1,?_,fun _=>.inr (.inr ⟨b,o,c,t',fz,rfl,hb,?_⟩)⟩
   ·unfold nz
    split
    ·rename_i hq;simp only[Value.slice.injEq] at hq;exact absurd ⟨hq.2.1,hq.2.2⟩ hne
    ·rfl
   ·have:=(ZDJ hcut).1
    have:c.toList.length=c.size:=Array.length_toList;omega
theorem ZRw {b o n:Nat}{row:List Value}{c:Array Value}{t:TypeId}{fz:Nat×Nat}(hb:W.heap[b]?=some (.cells c t fz))(hc:cut c.toList o n=some row)(hok:row.all (okv W.heap.size)=true):ZBC (ro W) b o n=some (row.map nz):=by
 unfold ZBC;rw[ZIt,hb];simp only[Option.map_some];unfold rdo;simp only[hc,hok]
theorem ZTM {α:Type}{R:Nat->α->Prop}{n:Nat}(h:∀i,i<n->∃x,R i x):∃l:List α,l.length=n/\∀i (hi:i<l.length),R i l[i]:=by
 induction n with
 | zero=>exact⟨[],rfl,fun i hi=>by simp at hi⟩
 | succ n ih =>
  obtain⟨l,h1,h2⟩:=ih fun i hi=>h i (by omega);obtain⟨x,hx⟩:=h n (by omega);refine⟨l++[x],by simp[h1],fun i hi=>?_⟩
  rcases Nat.lt_or_ge i l.length with g|g
  ·rw[List.getElem_append_left g];exact h2 i g
  ·have:i=n:=by simp at hi;omega
   subst this;subst h1
   simpa using hx
theorem ZK9 {f:FuncId}{args:List Value}{args':Array Value}(hs:Sv P f args (ro W) (RetP fun v h'=>v=.bool true/\Ext (ro W) h'))(hv:VRL (idI W.heap.size) args args'.toList) :
  Calls P f args' W fun e W'=>e=.returned (.bool true)/\Unch W W':=by
 refine (hs.w (idI W.heap.size) W args' (ZUB (Nat.le_refl _) (Nat.le_refl _)) hv).mono ?_;rintro en w' ⟨r,hR,hP⟩
 cases r with
 | ret v h' =>
  obtain⟨rfl,he⟩:=hR;obtain⟨ι',v',rfl,hvv,hr,ha⟩:=hP;cases hvv;exact⟨rfl,ZKr ha hr (Nat.le_refl _) ⟨he.1,he.2.1,he.2.2⟩⟩
 | pan v h'=>exact hR.elim
 | no=>exact hR.elim
theorem ZT7 {v:Value}(h:okv W.heap.size v=true):VR (idI W.heap.size) (nz v) v:=ZJy (fun b hb=>⟨⟨b,0,0⟩,ZJL hb,rfl⟩) h
theorem ZSn {l:List Value}(h:l.all (okv W.heap.size)=true):VRL (idI W.heap.size) (l.map nz) l:=ZLQ (fun b hb=>⟨⟨b,0,0⟩,ZJL hb,rfl⟩) h
variable {P:Program}
theorem ZNz {σ β:Type}{fr:Fr}{m:Mem}{ds:List ADef}{h h0:Heap}{Q:CQ}{f:Operand}{p:Tmp}{asg bd:Code}{g:FuncId}{cap:List Value}{X:σ->List It}{ok:List β->σ->Prop}{L:List β}{enc:β->Value}{q:Tmp}{s0:σ}
  (hrd:fr.rd=none) (hf:opk h m f=some (.func (.func g) ⟨[]⟩ ⟨cap⟩)) (hb:ZAy P g=true) (hlt:Nat.blt p fr.nt=true)
  (hw0:WF h0) (hE:Ext h0 h) (hO:Own h0 h (X s0)) (hok:ok [] s0)
  (hit:ZNi P g cap h0 X L enc)
  (hasg:∀l x h',Wc P ⟨fr.fn,fr.nt,some l⟩ asg (upd m p (enc x)) [] h' (fun y m1 ds1 h1=>y=.normal/\ds1=[]/\m1=upd (upd m p (enc x)) q (enc x)/\h1=h'))
  (hbody:∀l pre x post s h' R,L=pre++x::post->ok pre s->Own h0 h' (X s++R)->Ext h0 h' →
   Wc P ⟨fr.fn,fr.nt,some l⟩ bd (upd (upd m p (enc x)) q (enc x)) [] h' (fun y _ _ h''=>y=.normal/\∃s',ok (pre++[x]) s'/\Own h0 h'' (X s'++R)/\Ext h0 h''))
  (hQ:∀s h'',ok L s->Own h0 h'' (loI h.nx .defd::X s)->Ext h0 h''->Q .normal m (.coll h.nx::ds) h''):Wc P fr (.rangeFunc f #[p] asg bd) m ds h Q:=by
 refine ZBg fun hw=>ZJT hrd hf hb fun e hs hL hEL hWL hnL hLr hLl=>?_;have hO1:Own h0 hL (loI h.nx .defd::X s0):=hO.new hw hE.2.1 hEL hLr fun c hc=>by rw[show c=h.nx from hc];exact Nat.le_refl _
 have hO2:Own h0 hL (loI (h.nx+1) (.loop .ready none fr.fn fr.nt e #[p] asg bd h.nx)::loI h.nx .defd::X s0):=by
  refine⟨fun x hx=>?_,fun x hx c hc=>?_,List.pairwise_cons.2 ⟨fun z hz c hc hzc=>?_,hO1.ap⟩⟩
  ·rcases List.mem_cons.1 hx with rfl|hx
   ·exact hLl
   ·exact hO1.has x hx
  ·rcases List.mem_cons.1 hx with rfl|hx
   ·rw[show c=h.nx+1 from hc];have:=hE.2.1;omega
   ·exact hO1.lo x hx c hc
  ·rw[show c=h.nx+1 from hc] at hzc
   rcases List.mem_cons.1 hz with rfl|hz
   ·exact absurd (show h.nx+1=h.nx from hzc) (by omega)
   ·obtain⟨o,ho⟩:=z.ex (hO.has z hz) hzc
    have:=hw _ _ ho;omega
 have hE1L:=hE.trans hEL;generalize hrec:AO.loop LoopState.ready none fr.fn fr.nt e #[p] asg bd h.nx=rec at hO2
 let J:List It->List β->Heap->Prop:=fun I pre h'=>∃s,ok pre s/\Own h0 h' ((X s++I)++[loI (h.nx+1) rec,loI h.nx .defd])/\Ext h0 h'
 have toJ:∀{Z h' o},Own h0 h' (loI (h.nx+1) o::loI h.nx .defd::Z)->Own h0 h' (Z++[loI (h.nx+1) o,loI h.nx .defd]):=fun hO=>hO.perm (List.perm_append_comm (l₁:=[_,_]));have ofJ:∀{Z h' o},Own h0 h' (Z++[loI (h.nx+1) o,loI h.nx .defd])->Own h0 h' (loI (h.nx+1) o::loI h.nx .defd::Z):=fun hO=>hO.perm (List.perm_append_comm (l₂:=[_,_]));refine (hit (h.nx+1) hL J ⟨s0,hok,by rw[List.append_nil];exact toJ hO2,hE1L⟩ (fun I pre h' ⟨s,_,h1,h2⟩=>⟨h2,s,_,by rw[List.append_assoc] at h1;exact h1⟩) (fun I I' pre h1 h2 ⟨s,k1,k2,k3⟩ hT=>?_) (fun I pre x post h' hsp hJ=>?_)).ret ?_
 ·have k2':Own h0 h1 (I++(X s++[loI (h.nx+1) rec,loI h.nx .defd])):=k2.perm (by
   rw[<-List.append_assoc];exact (List.perm_append_comm).append_right _)
  obtain⟨k4,k5⟩:=hT _ k2' k3;exact⟨s,k1,k4.perm (by rw[<-List.append_assoc];exact (List.perm_append_comm).append_right _),k5⟩
 ·obtain⟨s,hoks,hOs,hEs⟩:=hJ
  have hl':h'.get (h.nx+1)=some rec:=(ofJ hOs).p1;rw[<-hrec] at hl'
  refine ZMY hl' hs rfl (by
   show ([p].all fun p=>Nat.blt p fr.nt)=true
   simp[hlt]) ?_
  refine ZBg fun hw'=>(hasg (h.nx+1) x h').mono ?_;rintro y m1 ds1 h1 ⟨rfl,rfl,rfl,rfl⟩;refine⟨rfl,rfl,_,_,_,_,_,_,_,_,hl',?_⟩;generalize hAO:AO.loop LoopState.busy none fr.fn fr.nt e #[p] asg bd h.nx=bo;have hU:=Upd.mk' h1 (h.nx+1) bo;obtain⟨hO5,hE5⟩:=(ofJ hOs).loSet hw0 hEs hU;generalize h1.set (h.nx+1) bo=h2 at *;have hO6:=toJ hO5;rw[List.append_assoc] at hO6;refine (hbody (h.nx+1) pre x post s h2 _ hsp hoks hO6 hE5).mono ?_;rintro y m3 ds3 h3 ⟨rfl,s',hoks',hO7,hE7⟩;rw[<-List.append_assoc] at hO7;have hl3:h3.get (h.nx+1)=some bo:=(ofJ hO7).p1;rw[<-hAO] at hl3;refine⟨none,_,_,_,_,_,_,_,_,_,rfl,hl3,rfl,s',hoks',?_⟩
  have hU8:=Upd.mk' h3 (h.nx+1) rec;obtain⟨hO8,hE8⟩:=(ofJ hO7).loSet hw0 hE7 hU8;rw[<-hrec] at hO8 hE8 ⊢;exact⟨toJ hO8,hE8⟩
 ·rintro v h' ⟨I,s,hoks,hOs,hEs⟩
  have hl':h'.get (h.nx+1)=some rec:=(ofJ hOs).p1;rw[<-hrec] at hl';refine⟨.ready,none,_,_,_,_,_,_,_,hl',by simp,fun _=>?_,fun c hc=>nomatch hc⟩;generalize hAO:AO.loop LoopState.exhausted _ _ _ _ _ _ _ _=bo;obtain⟨k1,k2⟩:=(ofJ hOs).loSet hw0 hEs (Upd.mk' h' (h.nx+1) bo);exact hQ s _ hoks (k1.tail.sub (List.Sublist.cons_cons _ (List.sublist_append_left _ _))) k2
end Go.Dw
namespace Go.Dw
open Go Go.Dx
variable {P:Program}{H:Type}{enc:TypeId×Value->H}{W:World}{cs:List Value}{t e:TypeId}
theorem ZPK (ht:P.underlying t=some (.slice e))(h:Rd enc P W t cs):∃v a len cap,cs=[v]/\nz v=.slice a len cap/\len<=cap:=by
 obtain⟨m,x,hx⟩:=h
 rcases DataW.trod_slice ht hx with ⟨h1,_⟩|⟨a,len,cap,elems,rest,n,_,h1,_,_,hlc,hcm,hel,he,hr,_⟩
 ·exact⟨_,none,0,0,h1,rfl,Nat.le_refl _⟩
 ·by_cases hne:len=0/\cap=0
  ·obtain⟨rfl,rfl⟩:=hne
   exact⟨_,some ⟨0,0,some 0⟩,0,0,h1,rfl,Nat.le_refl _⟩
  ·refine⟨_,some a,len,cap,h1,?_,hlc⟩
   unfold nz
   split
   ·rename_i hq;simp only[Value.slice.injEq] at hq;exact absurd ⟨hq.2.1,hq.2.2⟩ hne
   ·rfl
end Go.Dw
namespace Go.Dw
open Go Go.Dx
set_option maxRecDepth 100000
section
variable {H:Type}{enc:TypeId×Value->H}{P:Program}{W:World}{t e:TypeId}{cs:List Value}
def RdW (enc:TypeId×Value->H)(P:Program)(W:World)(t:TypeId)(cs:List Value):Prop:=∃n x,DataW.trod enc P W 0 (fun _=>true) true n t cs=some x/\∀k∈x.1.weights P t,k<=reachBytes
theorem RdW.rd (h:RdW enc P W t cs):Rd enc P W t cs:=by
 obtain⟨n,x,h1,_⟩:=h;exact⟨n,x,h1⟩
theorem ZCS {fs:Array Field}(ht:P.underlying t=some (.struct fs))(h:RdW enc P W t cs):∀(i:Nat)(f:Field),fs[i]?=some f->RdW enc P W f.type ((cs.drop f.offset).take (P.cellsOf f.type)):=by
 obtain⟨m,x,hx,hw⟩:=h;obtain⟨xs,n,_,rfl,_,h2,h3⟩:=DataW.trod_struct ht hx;intro i f hi;have:=h3 i f hi;have hlt:i<xs.length:=by rw[h2];exact (Array.getElem?_eq_some_iff.1 hi).1
 rw[List.getElem?_eq_getElem hlt] at this;refine⟨n,_,this,fun k hk=>hw k ?_⟩
 show k∈(DataW.agg (xs.map (·.1))).weights P t
 rw[DataW.weights,ht];refine DataW.weights_mem_each (j:=i) (t:=f.type) (d:=xs[i].1) ?_ ?_ k hk
 ·rw[List.getElem?_map,Array.getElem?_toList,hi];rfl
 ·rw[List.getElem?_map,List.getElem?_eq_getElem hlt];rfl
theorem ZGl:∀{l:List (DataW H)}{d:DataW H},d∈l->∀k∈d.weights P e,k∈DataW.weightsAll P e l
 | a::l,d,hd,k,hk=>by
  rw[DataW.weightsAll]
  rcases List.mem_cons.1 hd with rfl|g
  ·exact List.mem_append_left _ hk
  ·exact List.mem_append_right _ (ZGl g k hk)
theorem ZJx (ht:P.underlying t=some (.slice e))(hz:0<P.cellsOf e)(h:RdW enc P W t cs):∃v a len cap,cs=[v]/\okv W.heap.size v=true/\nz v=.slice a len cap/\len<9223372036854775808/\len*P.bytesOf e<=reachBytes ∧
  ∀i,i<len->∃b o,a=some ⟨b,o,none⟩/\∃row c t fz,W.heap[b]?=some (.cells c t fz)/\cut c.toList (o+i*P.cellsOf e) (P.cellsOf e)=some row/\RdW enc P W e row:=by
 have h5:maxLen=9223372036854775807:=by decide
 obtain⟨m,x,hx,hw⟩:=h
 rcases DataW.trod_slice ht hx with ⟨h1,_⟩|⟨a,len,cap,elems,rest,n,_,h1,hxe,_,hlc,hcm,hel,he,hr,_⟩
 ·exact⟨_,none,0,0,h1,rfl,rfl,by decide,by rw[Nat.zero_mul];exact Nat.zero_le _,fun i hi=>by omega⟩
 ·subst hxe
  have hwe:(DataW.slice (elems.map (·.1)) (rest.map (·.1))).weights P t=((elems.map (·.1)).length+(rest.map (·.1)).length)*P.bytesOf e::(DataW.weightsAll P e (elems.map (·.1))++DataW.weightsAll P e (rest.map (·.1))):=by
   rw[DataW.weights,ht]
  simp only[hwe] at hw;have hbytes:len*P.bytesOf e<=reachBytes:=by
   have h1:=hw _ List.mem_cons_self;rw[List.length_map,List.length_map,hel] at h1;exact Nat.le_trans (Nat.mul_le_mul_right _ (Nat.le_add_right _ _)) h1
  have hread:∀i,i<len->∃row,W.cells? 0 (a.add (i*P.cellsOf e)) (P.cellsOf e)=some row/\RdW enc P W e row:=by
   intro i g;have hb:=he i g;have hil:i<elems.length:=by omega
   rw[List.getElem?_eq_getElem hil] at hb
   cases hc:W.cells? 0 (a.add (i*P.cellsOf e)) (P.cellsOf e) with
   | none=>rw[hc] at hb;cases hb
   | some row =>
    rw[hc] at hb;refine⟨row,rfl,n,_,hb,fun k hk=>hw k (List.mem_cons_of_mem _ (List.mem_append_left _ (ZGl (List.mem_map.2 ⟨_,List.getElem_mem hil,rfl⟩) k hk)))⟩
  by_cases hlen:len=0
  ·subst hlen
   obtain⟨v,a',len',cap',g1,g2,g3,g4,g5⟩:=ZRW ht hz ⟨m,_,hx⟩;have hv:v=.slice (some a) 0 cap:=by rw[h1] at g1;exact (List.cons.inj g1).1.symm
   have:len'=0:=by
    rw[hv] at g3;unfold nz at g3
    split at g3
    ·simp only[Value.slice.injEq] at g3;exact g3.2.1.symm
    ·simp only[Value.slice.injEq] at g3;exact g3.2.1.symm
   subst this;exact⟨v,a',0,cap',g1,g2,g3,g4,hbytes,fun i hi=>absurd hi (Nat.not_lt_zero _)⟩
  ·obtain⟨row0,hc0,_⟩:=hread 0 (by omega)
   have e0:a.add (0*P.cellsOf e)=a:=by simp[Addr.add]
   rw[e0] at hc0;obtain⟨hsp,c,t',fz,hb,_⟩:=ZEJ hc0 hz;obtain⟨b,o,sp⟩:=a;simp only at hsp hb;subst hsp;have hlt:b<W.heap.size:=(Array.getElem?_eq_some_iff.1 hb).1;have hne:¬(len=0/\cap=0):=fun h=>hlen h.1;refine⟨_,some ⟨b,o,none⟩,len,cap,h1,?_,?_,by omega,hbytes,fun i hi=>⟨b,o,rfl,?_⟩⟩
   ·have hbl:Nat.blt b W.heap.size=true:=by rw[Nat.blt_eq];exact hlt
    exact ZSB hbl
   ·unfold nz
    split
    ·rename_i hq;simp only[Value.slice.injEq] at hq;exact absurd ⟨hq.2.1,hq.2.2⟩ hne
    ·rfl
   ·obtain⟨row,hc,hrd⟩:=hread i hi
    obtain⟨_,c1,t1,fz1,hb1,hcut⟩:=ZEJ hc hz;have hblk:((⟨b,o,none⟩:Addr).add (i*P.cellsOf e)).block=b:=by unfold Addr.add;split <;> rfl
    have hoff:((⟨b,o,none⟩:Addr).add (i*P.cellsOf e)).off=o+i*P.cellsOf e:=by unfold Addr.add;split <;> simp_all
    rw[hblk] at hb1;rw[hoff] at hcut;exact⟨row,c1,t1,fz1,hb1,hcut,hrd⟩
theorem ZFA {α:Type}{R:Heap->List Value->α->Prop}{Fit:α->Prop}{k:Nat}(ht:P.underlying t=some (.slice e))(hz:P.cellsOf e=k)(hk:0<k)(hel:∀row,RdW enc P W e row->∃x,row.all (okv W.heap.size)=true/\R (ro W) (row.map nz) x/\Fit x)(h:RdW enc P W t cs) :
  ∃v a l cap,cs=[v]/\okv W.heap.size v=true/\nz v=.slice a l.length cap/\ZAV k R (ro W) a l/\Len l/\∀x∈l,Fit x:=by
 obtain⟨v,a,len,cap,h1,h2,h3,h4,_,h5⟩:=ZJx ht (by omega) h;have:∀i,i<len->∃x,(∃b o,a=some ⟨b,o,none⟩/\∃row,ZBC (ro W) b (o+i*k) k=some row/\R (ro W) row x)/\Fit x:=by
  intro i hi;obtain⟨b,o,ha,row,c,t',fz,hb,hc,hrd⟩:=h5 i hi;obtain⟨x,ok,hx,hf⟩:=hel row hrd;rw[hz] at hc;exact⟨x,⟨b,o,ha,_,ZRw hb hc ok,hx⟩,hf⟩
 obtain⟨l,hl,hR⟩:=ZTM this;subst hl;refine⟨v,a,l,cap,h1,h2,h3,fun i hi=>?_,h4,fun x hx=>?_⟩
 ·obtain⟨⟨b,o,ha,row,hc,hx⟩,_⟩:=hR i hi
  exact⟨b,o,none,ha,row,hc,hx⟩
 ·obtain⟨i,hi,rfl⟩:=List.getElem_of_mem hx
  exact (hR i hi).2
end
end Go.Dw
namespace Go.Dw
open Go.Dx Go.ChangeShapes Go.WideShapes Go.ChangeAt Go.RowKit
variable {H:Type}{enc:TypeId×Value->H}{P:Program}{W W':World}
theorem ZFS {T:TypeId->Prop}{sp:Nat->Bool}(K:Kids P T)(hz:∀t e,T t->P.underlying t=some (.slice e)->0<P.cellsOf e):∀{ts:List TypeId}{vs:List Value}{ds:List (DataW H)}{ps:List MemPlace},(∀t∈ts,T t)->DataW.TrodAll enc P W 0 (fun _=>true) true ts vs ds ps->(∀p∈ps,W.sameAt W' p)->(∀p∈ps,sp p.block=true)->DataW.TrodAll enc P W' 0 sp true ts vs ds ps
 | [],[],[],_,_,h,_,_=>h
 | t::ts,v::vs,d::ds,_,hT,⟨p,q,⟨n,h1⟩,h2,e⟩,hw,hs=>by
  subst e;refine⟨p,q,⟨n,DataW.trod_stays (x:=(d,p)) K (fun a b=>hz _ _ a b) (fun h=>by cases h) (hT t List.mem_cons_self) h1 (fun x hx=>hw x (List.mem_append_left _ hx)) (fun x hx=>hs x (List.mem_append_left _ hx))⟩,?_,rfl⟩;exact ZFS K hz (fun t ht=>hT t (List.mem_cons_of_mem _ ht)) h2 (fun x hx=>hw x (List.mem_append_right _ hx)) (fun x hx=>hs x (List.mem_append_right _ hx))
theorem ZPx (hu:Unch W W'):∀p:MemPlace,p.block<W.heap.size->W.sameAt W' p
 | .cell b off,hp=>by
  have:W'.heap[b]?=W.heap[b]?:=hu.same b hp;simp only[World.sameAt,World.cell?,this]
 | .map b,hp=>hu.same b hp
theorem ZPQ (u:Unch W W')(may:MemPlace->Prop):W.keptBut W' may:=by
 refine⟨u.os,u.out,fun i hi=>?_⟩;rw[u.same i hi]
 cases hq:W.heap[i]? with
 | none=>rfl
 | some o=>cases o <;> first|rfl|exact⟨rfl,rfl,rfl,fun _ _=>rfl⟩|exact .inr ⟨rfl,rfl⟩
theorem ZJP {f:Func}{s:ChangeSpec}{args:Array Value}{v:Value}{ds gs:List (DataW H)}{ZAn pa pv:List MemPlace}
  (hW:DataW.Whole enc P f.params.toList s.vars false W args.toList ds gs ZAn)
  (hres:∀(b:Nat) (sp:Nat->Bool) (hd:Bool),DataW.TrodAll enc P W' b sp hd f.resultTypes.toList (v.resultList f.resultTypes.size) (s.fn H (ds++gs)).results [])
  (hargs:∀sp:Nat->Bool,(∀p∈ZAn,sp p.block=true)->DataW.TrodAll enc P W' 0 sp true f.params.toList args.toList (s.fn H (ds++gs)).args pa)
  (hvars:∀sp:Nat->Bool,(∀p∈ZAn,sp p.block=true)->DataW.TrodVars enc P W' sp s.vars (s.fn H (ds++gs)).vars pv)
  (hu:Unch W W'):s.post enc P f false true false false W args v W':=by
 have hlt:=hW.lt;have hold:∀p∈ZAn,(fun b=>decide (b<W.heap.size)) p.block=true:=fun p hp=>by simpa using hlt p hp
 exact⟨ds,gs,ZAn,[],pa,pv,hW,hres _ _ _,hargs _ hold,hvars _ hold,ZPQ hu _,fun h=>nomatch h⟩
theorem ZPl {fn:Func}{s:ChangeSpec}{args:Array Value}{ds:List (DataW H)}{ZAn:List MemPlace}{T:TypeId->Prop}(K:Kids P T)(hz:∀t e,T t->P.underlying t=some (.slice e)->0<P.cellsOf e)(hT:∀t∈fn.params.toList,T t)
  (hW:DataW.Whole enc P fn.params.toList s.vars false W args.toList ds [] ZAn) (hv:s.vars=[]) (hres:(s.fn H (ds++[])).results=[.lit (.bool true)]) (hargs:(s.fn H (ds++[])).args=ds) (hvr:(s.fn H (ds++[])).vars=[])
  (hrt:fn.resultTypes=#[4]) (h4:P.underlying 4=some .bool) (hu:Unch W W'):s.post enc P fn false true false false W args (.bool true) W':=by
 have hW':=hW;obtain⟨p,q,hA,hV,rfl,_,_⟩:=hW;rw[hv] at hV;obtain⟨_,rfl⟩:=trodVars_none hV;rw[List.append_nil] at hW';refine ZJP (pa:=p) (pv:=[]) hW' (fun _ _ _=>?_) (fun sp hsp=>?_) (fun _ _=>?_) hu
 ·rw[hres,hrt];exact trodAll_cons_mk (shut_bool h4 _) trodAll_mk0
 ·rw[hargs]
  exact ZFS K hz hT hA (fun x hx=>ZPx hu x (hW'.lt x hx)) (fun x hx=>hsp x hx)
 ·rw[hv,hvr];exact rfl
end Go.Dw
