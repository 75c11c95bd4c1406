/- RW: reading records, with their weights. -/
import Derived.OpenShut
import Derived.Test.YthlmgoefjmlndaaGreatDoorYG19
import Derived.Test.YthlmgoefjmlndaaGreatDoorYG8
set_option linter.unusedVariables false
set_option linter.unusedSimpArgs false
namespace Go.Dw
open Go Go.Dx Go.Proofs
set_option maxRecDepth 100000
section
variable {P:Program}{H:Type}{enc:TypeId×Value->H}{W:World}{cs:List Value}{t e:TypeId}
theorem ZC7 (ht:P.underlying t=some .string)(h:RdW enc P W t cs):∃s:Str,cs=[str s]/\s.length<=140737488351232:=by
 obtain⟨m,x,hx,hw⟩:=h;obtain⟨⟨⟨s⟩⟩,h1,h2,h3⟩:=DataW.trod_string ht hx;refine⟨s,h1,?_⟩;rw[h2] at hw;have:=hw s.length (by simp[DataW.weights]);exact this
theorem ZTk (h:RdW enc Tryz.prog W 44 cs):∃x:WkR,cs.all (okv W.heap.size)=true/\cs.map nz=rowW x/\x.Fit:=by
 have cS:Tryz.prog.cellsOf 44=6:=by kernel_rfl
 have cT:Tryz.prog.cellsOf 9=1:=by kernel_rfl
 have cI:Tryz.prog.cellsOf 3=1:=by kernel_rfl
 have h1:=(ZPi Tryz.underlying44 h.rd).1;have h2:=ZNW Tryz.underlying44 h;rw[cS] at h1;obtain⟨x0,x1,x2,x3,x4,x5,rfl⟩:∃x0 x1 x2 x3 x4 x5,cs=[x0,x1,x2,x3,x4,x5]:=by
  match cs,h1 with
  | [x0,x1,x2,x3,x4,x5],_=>exact⟨x0,x1,x2,x3,x4,x5,rfl⟩
 have f0:RdW enc Tryz.prog W 9 (([x0,x1,x2,x3,x4,x5].drop 0).take (Tryz.prog.cellsOf 9)):=h2 0 _ rfl;have f1:RdW enc Tryz.prog W 3 (([x0,x1,x2,x3,x4,x5].drop 1).take (Tryz.prog.cellsOf 3)):=h2 1 _ rfl;have f2:RdW enc Tryz.prog W 3 (([x0,x1,x2,x3,x4,x5].drop 2).take (Tryz.prog.cellsOf 3)):=h2 2 _ rfl;have f3:RdW enc Tryz.prog W 3 (([x0,x1,x2,x3,x4,x5].drop 3).take (Tryz.prog.cellsOf 3)):=h2 3 _ rfl;have f4:RdW enc Tryz.prog W 9 (([x0,x1,x2,x3,x4,x5].drop 4).take (Tryz.prog.cellsOf 9)):=h2 4 _ rfl;have f5:RdW enc Tryz.prog W 9 (([x0,x1,x2,x3,x4,x5].drop 5).take (Tryz.prog.cellsOf 9)):=h2 5 _ rfl
 rw[cT] at f0 f4 f5;rw[cI] at f1 f2 f3;obtain⟨s0,e0,q0⟩:=ZC7 Tryz.underlying9 f0;obtain⟨n1,e1,q1⟩:=ZMu Tryz.underlying3 f1.rd;obtain⟨n2,e2,q2⟩:=ZMu Tryz.underlying3 f2.rd;obtain⟨n3,e3,q3⟩:=ZMu Tryz.underlying3 f3.rd;obtain⟨s4,e4,q4⟩:=ZC7 Tryz.underlying9 f4;obtain⟨s5,e5,q5⟩:=ZC7 Tryz.underlying9 f5;simp only[List.drop_zero,List.drop_succ_cons,List.take_succ_cons,List.take_zero,List.cons.injEq,and_true] at e0 e1 e2 e3 e4 e5;subst e0 e1 e2 e3 e4 e5;exact⟨⟨s0,n1,n2,n3,s4,s5⟩,rfl,rfl,⟨by show s0.length<=_;omega,by show s4.length<=_;omega,by show s5.length<=_;omega⟩⟩
theorem ZSs (h:RdW enc Tryz.prog W 22 cs):∃v a l cap,cs=[v]/\okv W.heap.size v=true/\nz v=.slice a l.length cap/\ZDC (ro W) a l/\Len l/\∀x∈l,x.Fit :=
 ZRS (R:=RecR) (Fit:=WkR.Fit) Tryz.underlying22 (k:=6) (by kernel_rfl) (by decide) (fun row hr=>ZTk hr) h
end
section
variable {P:Program}{H:Type}{enc:TypeId×Value->H}{W:World}{cs:List Value}{t e:TypeId}
theorem ZKs (ht:P.underlying t=some (.slice e))(h:Rd enc P W t cs):∃v,cs=[v]/\∀len cap,nz v=.slice none len cap->cap=0:=by
 obtain⟨m,x,hx⟩:=h
 rcases DataW.trod_slice ht hx with ⟨h1,_⟩|⟨a,len,cap,elems,rest,n,_,h1,_⟩
 ·refine⟨_,h1,fun len cap hv=>?_⟩
  have:Value.slice none 0 0=.slice none len cap:=hv;simp only[Value.slice.injEq] at this;exact this.2.2.symm
 ·refine⟨_,h1,fun len' cap' hv=>?_⟩
  unfold nz at hv
  split at hv
  ·simp at hv
  ·simp at hv
theorem ZRL (h:RdW enc Tryz.prog W 22 cs):∃v a l cap,cs=[v]/\okv W.heap.size v=true/\nz v=.slice a l.length cap/\SrcK rowW 6 (ro W) a l/\(a=none->l=[]/\cap=0)/\Len l/\∀x∈l,x.Fit:=by
 obtain⟨v,a,l,cap,h1,h2,h3,h4,h5,h6⟩:=ZSs h;obtain⟨v',a',len',cap',g1,g2,g3⟩:=ZP8 Tryz.underlying22 (by rw[show Tryz.prog.cellsOf 44=6 by kernel_rfl];decide) h.rd;obtain⟨v2,k1,k2⟩:=ZKs Tryz.underlying22 h.rd;rw[h1] at g1 k1;simp only[List.cons.injEq,and_true] at g1 k1;subst g1;subst k1;have hcap:a=none->cap=0:=fun e=>k2 _ _ (by rw[h3,e]);rw[h3] at g2;simp only[Value.slice.injEq] at g2;obtain⟨rfl,rfl,rfl⟩:=g2;refine⟨v,a,l,cap,h1,h2,h3,⟨h4,fun hn=>?_⟩,fun e=>⟨?_,hcap e⟩,h5,h6⟩
 ·rcases g3 (by rw[hn];rfl) with g|g|⟨b,o,c,t',fz,g,hb,hle⟩
  ·exact .inl g
  ·exact .inr (.inl g)
  ·refine .inr (.inr ⟨b,o,none,g,?_⟩)
   have hlen:c.toList.length=c.size:=Array.length_toList
   have:=ZR2 (W:=W) (o:=o) (n:=0) (row:=[]) hb (by
    unfold cut;have:Nat.ble (Nat.add o 0) c.toList.length=true:=Nat.ble_eq_true_of_le (by show o+0<=c.toList.length;omega);rw[this];simp) rfl
   simpa using this
 ·subst e
  cases l with
  | nil=>rfl
  | cons x l =>
   obtain⟨b,o,oa,q,_⟩:=h4 0 (by simp);exact nomatch q
end
section
variable {P:Program}{H:Type}{enc:TypeId×Value->H}{W:World}{cs:List Value}{t e:TypeId}
theorem ZRV (h:RdW enc Tryz.prog W 22 cs):∃v a l cap,cs=[v]/\okv W.heap.size v=true/\nz v=.slice a l.length cap/\SrcK rowW 6 (ro W) a l/\(a=none->l=[]/\cap=0)/\l.length*72<=140737488351232/\∀x∈l,x.Fit:=by
 obtain⟨v,a,l,cap,h1,h2,h3,h4,h5,-,h7⟩:=ZRL h;obtain⟨v',a',len',cap',g1,-,g3,-,g5,-⟩:=ZJx Tryz.underlying22 (by rw[show Tryz.prog.cellsOf 44=6 by kernel_rfl];decide) h;rw[h1] at g1;simp only[List.cons.injEq,and_true] at g1;subst g1;rw[h3] at g3;simp only[Value.slice.injEq] at g3;obtain⟨-,rfl,-⟩:=g3;rw[show Tryz.prog.bytesOf 44=72 by kernel_rfl] at g5;exact⟨v,a,l,cap,h1,h2,h3,h4,h5,g5,h7⟩
theorem ZTD (h:RdW enc Tryz.prog W 53 cs):∃a b:Str,cs=[str a,str b]/\a.length<=140737488351232/\b.length<=140737488351232:=by
 obtain⟨m,x,hx,hw⟩:=h;have c5:Tryz.prog.cellsOf 9=1:=by kernel_rfl
 have c69:Tryz.prog.cellsOf 53=2:=by kernel_rfl
 obtain⟨ys,n,-,rfl,q3,q4,q5⟩:=DataW.trod_array Tryz.underlying53 hx;rw[c69] at q3;rw[c5] at q5;obtain⟨x0,x1,rfl⟩:∃x0 x1,cs=[x0,x1]:=by
  match cs,q3 with
  | [x0,x1],_=>exact⟨x0,x1,rfl⟩
 have hy:∀i,i<2->∃y,ys[i]?=some y:=fun i hi=>⟨ys[i]'(by omega),List.getElem?_eq_getElem _⟩;obtain⟨y0,hy0⟩:=hy 0 (by decide);obtain⟨y1,hy1⟩:=hy 1 (by decide);have hwe:(DataW.agg (ys.map (·.1))).weights Tryz.prog 53=DataW.weightsAll Tryz.prog 9 (ys.map (·.1)):=by
  rw[DataW.weights,Tryz.underlying53]
 simp only[hwe] at hw;have f0:RdW enc Tryz.prog W 9 [x0]:=⟨n,y0,(q5 0 (by decide)).trans hy0,fun k hk=>hw k (ZDk (List.mem_map.2 ⟨y0,List.mem_of_getElem? hy0,rfl⟩) k hk)⟩;have f1:RdW enc Tryz.prog W 9 [x1]:=⟨n,y1,(q5 1 (by decide)).trans hy1,fun k hk=>hw k (ZDk (List.mem_map.2 ⟨y1,List.mem_of_getElem? hy1,rfl⟩) k hk)⟩;obtain⟨a,ea,ha⟩:=ZC7 Tryz.underlying9 f0;obtain⟨b,eb,hb⟩:=ZC7 Tryz.underlying9 f1;simp only[List.cons.injEq,and_true] at ea eb;subst ea;subst eb;exact⟨a,b,rfl,ha,hb⟩
end
end Go.Dw
