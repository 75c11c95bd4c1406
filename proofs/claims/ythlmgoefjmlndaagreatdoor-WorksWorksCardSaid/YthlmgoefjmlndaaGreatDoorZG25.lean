/- RW: reading records, with their weights. -/
import Derived.OpenShut
import Derived.Test.YthlmgoefjmlndaaGreatDoorZG19
import Derived.Test.YthlmgoefjmlndaaGreatDoorZG8
set_option linter.unusedVariables false
set_option linter.unusedSimpArgs false
namespace Go.Dw
open Go Go.Dx Go.Proofs
set_option maxRecDepth 100000
section
variable {P:Program}{H:Type}{enc:TypeId×Value->H}{W:World}{cs:List Value}{t e:TypeId}
theorem ZF9 (ht:P.underlying t=some .string)(h:RdW enc P W t cs):∃s:Str,cs=[str s]/\s.length<=140737488351232:=by
 obtain⟨m,x,hx,hw⟩:=h;obtain⟨⟨⟨s⟩⟩,h1,h2,h3⟩:=DataW.trod_string ht hx;refine⟨s,h1,?_⟩;rw[h2] at hw;have:=hw s.length (by simp[DataW.weights]);exact this
theorem ZTH (h:RdW enc Tryz.prog W 44 cs):∃x:WkR,cs.all (okv W.heap.size)=true/\cs.map nz=rowW x/\x.Fit:=by
 have cS:Tryz.prog.cellsOf 44=6:=by kernel_rfl
 have cT:Tryz.prog.cellsOf 9=1:=by kernel_rfl
 have cI:Tryz.prog.cellsOf 3=1:=by kernel_rfl
 have h1:=(ZP1 Tryz.underlying44 h.rd).1;have h2:=ZOF Tryz.underlying44 h;rw[cS] at h1;obtain⟨x0,x1,x2,x3,x4,x5,rfl⟩:∃x0 x1 x2 x3 x4 x5,cs=[x0,x1,x2,x3,x4,x5]:=by
  match cs,h1 with
  | [x0,x1,x2,x3,x4,x5],_=>exact⟨x0,x1,x2,x3,x4,x5,rfl⟩
 have f0:RdW enc Tryz.prog W 9 (([x0,x1,x2,x3,x4,x5].drop 0).take (Tryz.prog.cellsOf 9)):=h2 0 _ rfl;have f1:RdW enc Tryz.prog W 3 (([x0,x1,x2,x3,x4,x5].drop 1).take (Tryz.prog.cellsOf 3)):=h2 1 _ rfl;have f2:RdW enc Tryz.prog W 3 (([x0,x1,x2,x3,x4,x5].drop 2).take (Tryz.prog.cellsOf 3)):=h2 2 _ rfl;have f3:RdW enc Tryz.prog W 3 (([x0,x1,x2,x3,x4,x5].drop 3).take (Tryz.prog.cellsOf 3)):=h2 3 _ rfl;have f4:RdW enc Tryz.prog W 9 (([x0,x1,x2,x3,x4,x5].drop 4).take (Tryz.prog.cellsOf 9)):=h2 4 _ rfl;have f5:RdW enc Tryz.prog W 9 (([x0,x1,x2,x3,x4,x5].drop 5).take (Tryz.prog.cellsOf 9)):=h2 5 _ rfl
 rw[cT] at f0 f4 f5;rw[cI] at f1 f2 f3;obtain⟨s0,e0,q0⟩:=ZF9 Tryz.underlying9 f0;obtain⟨n1,e1,q1⟩:=ZPh Tryz.underlying3 f1.rd;obtain⟨n2,e2,q2⟩:=ZPh Tryz.underlying3 f2.rd;obtain⟨n3,e3,q3⟩:=ZPh Tryz.underlying3 f3.rd;obtain⟨s4,e4,q4⟩:=ZF9 Tryz.underlying9 f4;obtain⟨s5,e5,q5⟩:=ZF9 Tryz.underlying9 f5;simp only[List.drop_zero,List.drop_succ_cons,List.take_succ_cons,List.take_zero,List.cons.injEq,and_true] at e0 e1 e2 e3 e4 e5;subst e0 e1 e2 e3 e4 e5;exact⟨⟨s0,n1,n2,n3,s4,s5⟩,rfl,rfl,⟨by show s0.length<=_;omega,by show s4.length<=_;omega,by show s5.length<=_;omega⟩⟩
theorem ZSU (h:RdW enc Tryz.prog W 22 cs):∃v a l cap,cs=[v]/\okv W.heap.size v=true/\nz v=.slice a l.length cap/\ZC1 (ro W) a l/\Len l/\∀x∈l,x.Fit :=
 ZQ6 (R:=RecR) (Fit:=WkR.Fit) Tryz.underlying22 (k:=6) (by kernel_rfl) (by decide) (fun row hr=>ZTH hr) h
end
section
variable {P:Program}{H:Type}{enc:TypeId×Value->H}{W:World}{cs:List Value}{t e:TypeId}
theorem ZKG (ht:P.underlying t=some (.slice e))(h:Rd enc P W t cs):∃v,cs=[v]/\∀len cap,nz v=.slice none len cap->cap=0:=by
 obtain⟨m,x,hx⟩:=h
 rcases DataW.trod_slice ht hx with ⟨h1,_⟩|⟨a,len,cap,elems,rest,n,_,h1,_⟩
 ·refine⟨_,h1,fun len cap hv=>?_⟩
  have:Value.slice none 0 0=.slice none len cap:=hv;simp only[Value.slice.injEq] at this;exact this.2.2.symm
 ·refine⟨_,h1,fun len' cap' hv=>?_⟩
  unfold nz at hv
  split at hv
  ·simp at hv
  ·simp at hv
theorem ZQq (h:RdW enc Tryz.prog W 22 cs):∃v a l cap,cs=[v]/\okv W.heap.size v=true/\nz v=.slice a l.length cap/\SrcK rowW 6 (ro W) a l/\(a=none->l=[]/\cap=0)/\Len l/\∀x∈l,x.Fit:=by
 obtain⟨v,a,l,cap,h1,h2,h3,h4,h5,h6⟩:=ZSU h;obtain⟨v',a',len',cap',g1,g2,g3⟩:=ZP3 Tryz.underlying22 (by rw[show Tryz.prog.cellsOf 44=6 by kernel_rfl];decide) h.rd;obtain⟨v2,k1,k2⟩:=ZKG Tryz.underlying22 h.rd;rw[h1] at g1 k1;simp only[List.cons.injEq,and_true] at g1 k1;subst g1;subst k1;have hcap:a=none->cap=0:=fun e=>k2 _ _ (by rw[h3,e]);rw[h3] at g2;simp only[Value.slice.injEq] at g2;obtain⟨rfl,rfl,rfl⟩:=g2;refine⟨v,a,l,cap,h1,h2,h3,⟨h4,fun hn=>?_⟩,fun e=>⟨?_,hcap e⟩,h5,h6⟩
 ·rcases g3 (by rw[hn];rfl) with g|g|⟨b,o,c,t',fz,g,hb,hle⟩
  ·exact .inl g
  ·exact .inr (.inl g)
  ·refine .inr (.inr ⟨b,o,none,g,?_⟩)
   have hlen:c.toList.length=c.size:=Array.length_toList
   have:=ZSD (W:=W) (o:=o) (n:=0) (row:=[]) hb (by
    unfold cut;have:Nat.ble (Nat.add o 0) c.toList.length=true:=Nat.ble_eq_true_of_le (by show o+0<=c.toList.length;omega);rw[this];simp) rfl
   simpa using this
 ·subst e
  cases l with
  | nil=>rfl
  | cons x l =>
   obtain⟨b,o,oa,q,_⟩:=h4 0 (by simp);exact nomatch q
end
section
variable {P:Program}{H:Type}{enc:TypeId×Value->H}{W:World}{cs:List Value}{t e:TypeId}
theorem ZRK (h:RdW enc Tryz.prog W 22 cs):∃v a l cap,cs=[v]/\okv W.heap.size v=true/\nz v=.slice a l.length cap/\SrcK rowW 6 (ro W) a l/\(a=none->l=[]/\cap=0)/\l.length*72<=140737488351232/\∀x∈l,x.Fit:=by
 obtain⟨v,a,l,cap,h1,h2,h3,h4,h5,-,h7⟩:=ZQq h;obtain⟨v',a',len',cap',g1,-,g3,-,g5,-⟩:=ZKs Tryz.underlying22 (by rw[show Tryz.prog.cellsOf 44=6 by kernel_rfl];decide) h;rw[h1] at g1;simp only[List.cons.injEq,and_true] at g1;subst g1;rw[h3] at g3;simp only[Value.slice.injEq] at g3;obtain⟨-,rfl,-⟩:=g3;rw[show Tryz.prog.bytesOf 44=72 by kernel_rfl] at g5;exact⟨v,a,l,cap,h1,h2,h3,h4,h5,g5,h7⟩
end
end Go.Dw
