/- M0: prints copied, and the reels of one of them replaced. -/
import Derived.Test.YtfgeelpahicelaaGreatDoorUG4
import Derived.Test.YtfgeelpahicelaaGreatDoorUG11
set_option linter.unusedVariables false
set_option linter.unusedSimpArgs false
namespace Go.Dw
open Go Go.Dx Go.Proofs
set_option maxRecDepth 100000
abbrev Row7:={r:List Value // r.length=7}
theorem rows7_len (l:List Row7):(l.flatMap Subtype.val).length=l.length*7:=by
 induction l with
 | nil=>rfl
 | cons x l ih=>rw[List.flatMap_cons,List.length_append,ih,List.length_cons,x.2];omega
theorem rows7_set {v:Value}:∀{l:List Row7}{k:Nat}(hk:k<l.length),(l.flatMap Subtype.val).set (k*7+3) v=(l.set k ⟨l[k].1.set 3 v,by rw[List.length_set];exact l[k].2⟩).flatMap Subtype.val
 | x::l,0,_=>by
  rw[List.set_cons_zero,List.flatMap_cons,List.flatMap_cons,List.set_append_left _ _ (by rw[x.2];omega)]
  rfl
 | x::l,k+1,h=>by
  have ih:=rows7_set (v:=v) (l:=l) (k:=k) (by simpa using h)
  rw[List.set_cons_succ,List.flatMap_cons,List.flatMap_cons,List.set_append_right _ _ (by rw[x.2];omega),x.2,show (k+1)*7+3-7=k*7+3 by omega,ih]
  rfl
theorem prRow_len {h:Heap}{row:List Value}{x:ScP}(hR:ScPR h row x):row.length=7:=by
 obtain⟨a,c,rfl,-⟩:=hR
 rfl
theorem prints_rows {h:Heap}{b o:Nat}{oa:Option Nat}{l:List ScP}(hl:RowsAt 7 ScPR h (some ⟨b,o,oa⟩) l):∃rows:List Row7,rows.length=l.length/\RowsAt 7 (fun _ row (x:Row7)=>row=x.1) h (some ⟨b,o,oa⟩) rows/\∀i (hi:i<l.length)(hi':i<rows.length),ScPR h rows[i].1 l[i]:=by
 have hc:∀i:Fin l.length,∃r:Row7,rowAt h b (o+i.1*7) 7=some r.1/\ScPR h r.1 l[i.1]:=by
  intro i
  obtain⟨b',o',oa',e,row,h1,h2⟩:=hl i.1 i.2
  cases e
  exact⟨⟨row,prRow_len h2⟩,h1,h2⟩
 refine⟨List.ofFn fun i=>Classical.choose (hc i),List.length_ofFn,fun i hi=>?_,fun i hi hi'=>?_⟩
 ·have hi2:i<l.length:=by rw[List.length_ofFn] at hi;exact hi
  refine⟨b,o,oa,rfl,_,(Classical.choose_spec (hc ⟨i,hi2⟩)).1,?_⟩
  rw[List.getElem_ofFn]
 ·rw[List.getElem_ofFn]
  exact (Classical.choose_spec (hc ⟨i,hi⟩)).2
theorem rows7_one {h:Heap}:∀{rows:List Row7}{l:List ScP},rows.length=l.length->(∀i (hi:i<l.length)(hi':i<rows.length),ScPR h rows[i].1 l[i])->allOne (rows.flatMap Subtype.val)=true
 | [],_,_,_=>rfl
 | r::rows,[],e,_=>by cases e
 | r::rows,x::l,e,hR=>by
  obtain⟨a,c,h1,-⟩:=hR 0 (Nat.zero_lt_succ _) (Nat.zero_lt_succ _)
  have ih:=rows7_one (rows:=rows) (l:=l) (by simpa using e) fun i hi hi'=>hR (i+1) (Nat.succ_lt_succ hi) (Nat.succ_lt_succ hi')
  rw[List.getElem_cons_zero] at h1
  rw[List.flatMap_cons,h1]
  simp only[allOne,List.all_append,Bool.and_eq_true] at ih ⊢
  exact⟨rfl,ih⟩
theorem prints_set {h h':Heap}{rows:List Row7}{l:List ScP}{k b c:Nat}{n:Int}{a:Option Addr}{sp:Option Nat}{el:TypeId}{op:Bool}(e:rows.length=l.length)(hR:∀i (hi:i<l.length)(hi':i<rows.length),ScPR h rows[i].1 l[i])(hE:Ext h h')(hk:k<l.length)(hI:IntsAt h' a [n])
  (hg:h'.get b=some (.cells ((rows.flatMap Subtype.val).set (k*7+3) (.slice a 1 c)) el op)):RowsAt 7 ScPR h' (some ⟨b,0,sp⟩) (l.set k (cutP (l.getD k noP) n)):=by
 rw[rows7_set (by omega)] at hg
 intro i hi
 have hi1:i<l.length:=by rw[List.length_set] at hi;exact hi
 refine⟨b,0,sp,rfl,((rows.set k ⟨rows[k].1.set 3 (.slice a 1 c),by rw[List.length_set];exact rows[k].2⟩)[i]'(by rw[List.length_set];omega)).1,rowAt_cells hg ?_,?_⟩
 ·rw[Nat.zero_add]
  exact cut_flat (f:=Subtype.val) (k:=7) (by rw[List.length_set];omega) fun p _=>p.2
 ·rw[List.getElem_set,List.getElem_set]
  by_cases hik:k=i
  ·subst hik
   rw[if_pos rfl,if_pos rfl]
   obtain⟨a0,c0,h1,-⟩:=hR k hk (by omega)
   refine⟨a,c,?_,hI⟩
   show rows[k].1.set 3 _=_
   rw[h1,List.getD_eq_getElem?_getD,List.getElem?_eq_getElem hk]
   rfl
  ·rw[if_neg hik,if_neg hik]
   exact (hR i hi1 (by omega)).ext hE
theorem Own.add1 {h0 h:Heap}{l:List It}{y:It}(hO:Own h0 h l)(hy:y.p h)(hlo:∀c,y.S c->h0.nx<=c)(hne:∀x∈l,∀c,x.S c->¬y.S c):Own h0 h (y::l):=by
 refine⟨fun z hz=>?_,fun z hz c hc=>?_,List.pairwise_cons.2 ⟨fun z hz c hc hzc=>hne z hz c hzc hc,hO.ap⟩⟩
 ·rcases List.mem_cons.1 hz with rfl|hz
  ·exact hy
  ·exact hO.has z hz
 ·rcases List.mem_cons.1 hz with rfl|hz
  ·exact hlo c hc
  ·exact hO.lo z hz c hc
theorem Own.blk {h0 h:Heap}{l:List It}{v:Value}{el:TypeId}{sz n:Nat}{cs:List Value}(hO:Own h0 h (slI h0 v el sz cs n::l))(hn:0<n):∃b sp op,v=.slice (some ⟨b,0,sp⟩) n n/\Own h0 h (ceI b cs el op::l):=by
 obtain⟨b,sp,op,e,hg,-,hb⟩:=(show FreshSl h0 h v el sz cs n from hO.p1).blk hn
 subst e
 have h1:=List.pairwise_cons.1 hO.ap
 refine⟨b,sp,op,rfl,Own.add1 hO.tail hg (fun c hc=>?_) fun x hx c hc hyc=>?_⟩
 ·rw[show c=b from hc];exact hO.lo _ List.mem_cons_self b rfl
 ·rw[show c=b from hyc] at hc
  exact h1.1 x hx b rfl hc
end Go.Dw
