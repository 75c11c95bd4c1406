/- SR: reading a task of chapter 11. -/
import Derived.Test.YtfgeelpahicelaaGreatDoorXG5
import Derived.Test.YtfgeelpahicelaaGreatDoorXG13
import Derived.Test.YtfgeelpahicelaaGreatDoorXG2
import Derived.Test.YtfgeelpahicelaaGreatDoorXG15
import Derived.Test.YtfgeelpahicelaaGreatDoorXG12
set_option linter.unusedVariables false
set_option linter.unusedSimpArgs false
namespace Go.Dw
open Go Go.Dx Go.Proofs
set_option maxRecDepth 100000
section
variable {H:Type}{enc:TypeId×Value->H}{W:World}{cs:List Value}
theorem ZPC (h:Rd enc Tryz.prog W 49 cs):∃s:Sp,cs=[i64 s.lo,i64 s.hi]/\I64 s.lo/\I64 s.hi:=by
 have cS:Tryz.prog.cellsOf 49=2:=by kernel_rfl
 have c3:Tryz.prog.cellsOf 3=1:=by kernel_rfl
 obtain⟨h1,h2⟩:=ZBm Tryz.underlying49 h;rw[cS] at h1;obtain⟨x0,x1,rfl⟩:∃x0 x1,cs=[x0,x1]:=by
  match cs,h1 with
  | [x0,x1],_=>exact⟨x0,x1,rfl⟩
 have f0:Rd enc Tryz.prog W 3 (([x0,x1].drop 0).take (Tryz.prog.cellsOf 3)):=h2 0 _ rfl;have f1:Rd enc Tryz.prog W 3 (([x0,x1].drop 1).take (Tryz.prog.cellsOf 3)):=h2 1 _ rfl;rw[c3] at f0 f1;obtain⟨n0,e0,l0⟩:=ZBZ Tryz.underlying3 f0;obtain⟨n1,e1,l1⟩:=ZBZ Tryz.underlying3 f1;simp at e0 e1;subst e0;subst e1;exact⟨⟨n0,n1⟩,rfl,l0,l1⟩
theorem ZQv (h:Rd enc Tryz.prog W 22 cs):∃v a l cap,cs=[v]/\okv W.heap.size v=true/\nz v=.slice a l.length cap/\ZF8 (ro W) a l/\Len l/\∀s∈l,Len s :=
 ZOR (encA:=str) (Fit:=fun s:List UInt8=>Len s) Tryz.underlying22 (by kernel_rfl) (fun row hr=>by
  obtain⟨n,h1,h2⟩:=ZBy Tryz.underlying9 hr;exact⟨n,_,h1,rfl,rfl,h2⟩) h
theorem ZPU (h:Rd enc Tryz.prog W 22 cs):∃v a l cap,cs=[v]/\okv W.heap.size v=true/\nz v=.slice a l.length cap/\ParL str (ro W) a l cap/\Len l/\∀s∈l,Len s:=by
 obtain⟨v,a,l,cap,h1,h2,h3,h4,h5,h6⟩:=ZQv h;obtain⟨v',a',len',cap',g1,g2,g3⟩:=ZOy Tryz.underlying22 h;have c9:Tryz.prog.cellsOf 9=1:=by kernel_rfl
 obtain⟨v2,a2,len2,cap2,k1,_,k3,_,k5⟩:=ZId Tryz.underlying22 (by omega) h;rw[h1] at g1 k1;simp only[List.cons.injEq,and_true] at g1 k1;subst g1;subst k1;rw[h3] at g2 k3;simp only[Value.slice.injEq] at g2 k3;obtain⟨rfl,rfl,rfl⟩:=g2;obtain⟨rfl,rfl,rfl⟩:=k3;refine⟨v,a,l,cap,h1,h2,h3,⟨h4,g3,fun hn=>?_⟩,h5,h6⟩;obtain⟨b,o,ha,_⟩:=k5 0 (List.length_pos_iff.2 hn);exact⟨b,o,ha⟩
theorem ZQ8 (h:Rd enc Tryz.prog W 52 cs):∃l:List Int,cs.all (okv W.heap.size)=true/\ZCG (ro W) (cs.map nz) l/\(Len l/\∀n∈l,I64 n):=by
 obtain⟨v,a,l,cap,e,ok,hz,hI,hL,hF⟩:=ZNw Tryz.underlying52 Tryz.underlying3 (by kernel_rfl) h;subst e;exact⟨l,by simp[ok],⟨a,cap,by simp only[List.map_cons,List.map_nil,hz],hI⟩,hL,hF⟩
theorem ZPR (h:Rd enc Tryz.prog W 54 cs):∃v:ScV,cs.all (okv W.heap.size)=true/\ScVR (ro W) (cs.map nz) v/\v.Fit:=by
 have cS:Tryz.prog.cellsOf 54=9:=by kernel_rfl
 obtain⟨h1,h2⟩:=ZBm Tryz.underlying54 h;rw[cS] at h1;obtain⟨x0,x1,x2,x3,x4,x5,x6,x7,x8,rfl⟩:∃x0 x1 x2 x3 x4 x5 x6 x7 x8,cs=[x0,x1,x2,x3,x4,x5,x6,x7,x8]:=by
  match cs,h1 with
  | [x0,x1,x2,x3,x4,x5,x6,x7,x8],_=>exact⟨x0,x1,x2,x3,x4,x5,x6,x7,x8,rfl⟩
 have c0:Tryz.prog.cellsOf 9=1:=by kernel_rfl
 have f0:Rd enc Tryz.prog W 9 (([x0,x1,x2,x3,x4,x5,x6,x7,x8].drop 0).take (Tryz.prog.cellsOf 9)):=h2 0 _ rfl;rw[c0] at f0;obtain⟨n0,e0,l0⟩:=ZBy Tryz.underlying9 f0;have c1:Tryz.prog.cellsOf 3=1:=by kernel_rfl
 have f1:Rd enc Tryz.prog W 3 (([x0,x1,x2,x3,x4,x5,x6,x7,x8].drop 1).take (Tryz.prog.cellsOf 3)):=h2 1 _ rfl;rw[c1] at f1;obtain⟨n1,e1,l1⟩:=ZBZ Tryz.underlying3 f1;have c2:Tryz.prog.cellsOf 3=1:=by kernel_rfl
 have f2:Rd enc Tryz.prog W 3 (([x0,x1,x2,x3,x4,x5,x6,x7,x8].drop 2).take (Tryz.prog.cellsOf 3)):=h2 2 _ rfl;rw[c2] at f2;obtain⟨n2,e2,l2⟩:=ZBZ Tryz.underlying3 f2;have c3:Tryz.prog.cellsOf 49=2:=by kernel_rfl
 have f3:Rd enc Tryz.prog W 49 (([x0,x1,x2,x3,x4,x5,x6,x7,x8].drop 3).take (Tryz.prog.cellsOf 49)):=h2 3 _ rfl;rw[c3] at f3;obtain⟨n3,e3,l3,m3⟩:=ZPC f3;have c4:Tryz.prog.cellsOf 3=1:=by kernel_rfl
 have f4:Rd enc Tryz.prog W 3 (([x0,x1,x2,x3,x4,x5,x6,x7,x8].drop 5).take (Tryz.prog.cellsOf 3)):=h2 4 _ rfl;rw[c4] at f4;obtain⟨n4,e4,l4⟩:=ZBZ Tryz.underlying3 f4;have c5:Tryz.prog.cellsOf 3=1:=by kernel_rfl
 have f5:Rd enc Tryz.prog W 3 (([x0,x1,x2,x3,x4,x5,x6,x7,x8].drop 6).take (Tryz.prog.cellsOf 3)):=h2 5 _ rfl;rw[c5] at f5;obtain⟨n5,e5,l5⟩:=ZBZ Tryz.underlying3 f5;have c6:Tryz.prog.cellsOf 3=1:=by kernel_rfl
 have f6:Rd enc Tryz.prog W 3 (([x0,x1,x2,x3,x4,x5,x6,x7,x8].drop 7).take (Tryz.prog.cellsOf 3)):=h2 6 _ rfl;rw[c6] at f6;obtain⟨n6,e6,l6⟩:=ZBZ Tryz.underlying3 f6;have c7:Tryz.prog.cellsOf 4=1:=by kernel_rfl
 have f7:Rd enc Tryz.prog W 4 (([x0,x1,x2,x3,x4,x5,x6,x7,x8].drop 8).take (Tryz.prog.cellsOf 4)):=h2 7 _ rfl;rw[c7] at f7;obtain⟨n7,e7⟩:=ZRW Tryz.underlying4 f7;simp at e0 e1 e2 e3 e4 e5 e6 e7;subst e0;subst e1;subst e2;obtain⟨rfl,rfl⟩:=e3;subst e4;subst e5;subst e6;subst e7;refine⟨⟨n0,n1,n2,n3,n4,n5,n6,n7⟩,rfl,rfl,⟨l0,l1,l2,⟨l3,m3⟩,l4,l5,l6⟩⟩
theorem ZPj (h:Rd enc Tryz.prog W 88 cs):∃v:ScR,cs.all (okv W.heap.size)=true/\ScRR (ro W) (cs.map nz) v/\v.Fit:=by
 have cS:Tryz.prog.cellsOf 88=5:=by kernel_rfl
 obtain⟨h1,h2⟩:=ZBm Tryz.underlying88 h;rw[cS] at h1;obtain⟨x0,x1,x2,x3,x4,rfl⟩:∃x0 x1 x2 x3 x4,cs=[x0,x1,x2,x3,x4]:=by
  match cs,h1 with
  | [x0,x1,x2,x3,x4],_=>exact⟨x0,x1,x2,x3,x4,rfl⟩
 have c0:Tryz.prog.cellsOf 9=1:=by kernel_rfl
 have f0:Rd enc Tryz.prog W 9 (([x0,x1,x2,x3,x4].drop 0).take (Tryz.prog.cellsOf 9)):=h2 0 _ rfl;rw[c0] at f0;obtain⟨n0,e0,l0⟩:=ZBy Tryz.underlying9 f0;have c1:Tryz.prog.cellsOf 9=1:=by kernel_rfl
 have f1:Rd enc Tryz.prog W 9 (([x0,x1,x2,x3,x4].drop 1).take (Tryz.prog.cellsOf 9)):=h2 1 _ rfl;rw[c1] at f1;obtain⟨n1,e1,l1⟩:=ZBy Tryz.underlying9 f1;have c2:Tryz.prog.cellsOf 3=1:=by kernel_rfl
 have f2:Rd enc Tryz.prog W 3 (([x0,x1,x2,x3,x4].drop 2).take (Tryz.prog.cellsOf 3)):=h2 2 _ rfl;rw[c2] at f2;obtain⟨n2,e2,l2⟩:=ZBZ Tryz.underlying3 f2;have c3:Tryz.prog.cellsOf 49=2:=by kernel_rfl
 have f3:Rd enc Tryz.prog W 49 (([x0,x1,x2,x3,x4].drop 3).take (Tryz.prog.cellsOf 49)):=h2 3 _ rfl;rw[c3] at f3;obtain⟨n3,e3,l3,m3⟩:=ZPC f3;simp at e0 e1 e2 e3;subst e0;subst e1;subst e2;obtain⟨rfl,rfl⟩:=e3;refine⟨⟨n0,n1,n2,n3⟩,rfl,rfl,⟨l0,l1,l2,⟨l3,m3⟩⟩⟩
theorem ZQL (h:Rd enc Tryz.prog W 56 cs):∃v:ScP,cs.all (okv W.heap.size)=true/\ScPR (ro W) (cs.map nz) v/\v.Fit:=by
 have cS:Tryz.prog.cellsOf 56=7:=by kernel_rfl
 obtain⟨h1,h2⟩:=ZBm Tryz.underlying56 h;rw[cS] at h1;obtain⟨x0,x1,x2,x3,x4,x5,x6,rfl⟩:∃x0 x1 x2 x3 x4 x5 x6,cs=[x0,x1,x2,x3,x4,x5,x6]:=by
  match cs,h1 with
  | [x0,x1,x2,x3,x4,x5,x6],_=>exact⟨x0,x1,x2,x3,x4,x5,x6,rfl⟩
 have c0:Tryz.prog.cellsOf 9=1:=by kernel_rfl
 have f0:Rd enc Tryz.prog W 9 (([x0,x1,x2,x3,x4,x5,x6].drop 0).take (Tryz.prog.cellsOf 9)):=h2 0 _ rfl;rw[c0] at f0;obtain⟨n0,e0,l0⟩:=ZBy Tryz.underlying9 f0;have c1:Tryz.prog.cellsOf 9=1:=by kernel_rfl
 have f1:Rd enc Tryz.prog W 9 (([x0,x1,x2,x3,x4,x5,x6].drop 1).take (Tryz.prog.cellsOf 9)):=h2 1 _ rfl;rw[c1] at f1;obtain⟨n1,e1,l1⟩:=ZBy Tryz.underlying9 f1;have c2:Tryz.prog.cellsOf 9=1:=by kernel_rfl
 have f2:Rd enc Tryz.prog W 9 (([x0,x1,x2,x3,x4,x5,x6].drop 2).take (Tryz.prog.cellsOf 9)):=h2 2 _ rfl;rw[c2] at f2;obtain⟨n2,e2,l2⟩:=ZBy Tryz.underlying9 f2;have c3:Tryz.prog.cellsOf 52=1:=by kernel_rfl
 have f3:Rd enc Tryz.prog W 52 (([x0,x1,x2,x3,x4,x5,x6].drop 3).take (Tryz.prog.cellsOf 52)):=h2 3 _ rfl;rw[c3] at f3;obtain⟨v3,a3,n3,cap3,e3,ok3,nz3,hI3,hL3,hF3⟩:=ZNw Tryz.underlying52 Tryz.underlying3 (by kernel_rfl) f3;have c4:Tryz.prog.cellsOf 49=2:=by kernel_rfl
 have f4:Rd enc Tryz.prog W 49 (([x0,x1,x2,x3,x4,x5,x6].drop 4).take (Tryz.prog.cellsOf 49)):=h2 4 _ rfl;rw[c4] at f4;obtain⟨n4,e4,l4,m4⟩:=ZPC f4;have c5:Tryz.prog.cellsOf 3=1:=by kernel_rfl
 have f5:Rd enc Tryz.prog W 3 (([x0,x1,x2,x3,x4,x5,x6].drop 6).take (Tryz.prog.cellsOf 3)):=h2 5 _ rfl;rw[c5] at f5;obtain⟨n5,e5,l5⟩:=ZBZ Tryz.underlying3 f5;simp at e0 e1 e2 e3 e4 e5;subst e0;subst e1;subst e2;subst e3;obtain⟨rfl,rfl⟩:=e4;subst e5;refine⟨⟨n0,n1,n2,n3,n4,n5⟩,?_,⟨a3,cap3,?_,hI3⟩,⟨l0,l1,l2,hL3,hF3,⟨l4,m4⟩,l5⟩⟩
 ·simp[ok3]
  try (repeat' constructor)
 ·simp only[List.map_cons,List.map_nil,nz3];rfl
theorem ZRg (h:Rd enc Tryz.prog W 86 cs):∃v:ScPk,cs.all (okv W.heap.size)=true/\ZEV (ro W) (cs.map nz) v/\v.Fit:=by
 have cS:Tryz.prog.cellsOf 86=5:=by kernel_rfl
 obtain⟨h1,h2⟩:=ZBm Tryz.underlying86 h;rw[cS] at h1;obtain⟨x0,x1,x2,x3,x4,rfl⟩:∃x0 x1 x2 x3 x4,cs=[x0,x1,x2,x3,x4]:=by
  match cs,h1 with
  | [x0,x1,x2,x3,x4],_=>exact⟨x0,x1,x2,x3,x4,rfl⟩
 have c0:Tryz.prog.cellsOf 9=1:=by kernel_rfl
 have f0:Rd enc Tryz.prog W 9 (([x0,x1,x2,x3,x4].drop 0).take (Tryz.prog.cellsOf 9)):=h2 0 _ rfl;rw[c0] at f0;obtain⟨n0,e0,l0⟩:=ZBy Tryz.underlying9 f0;have c1:Tryz.prog.cellsOf 9=1:=by kernel_rfl
 have f1:Rd enc Tryz.prog W 9 (([x0,x1,x2,x3,x4].drop 1).take (Tryz.prog.cellsOf 9)):=h2 1 _ rfl;rw[c1] at f1;obtain⟨n1,e1,l1⟩:=ZBy Tryz.underlying9 f1;have c2:Tryz.prog.cellsOf 9=1:=by kernel_rfl
 have f2:Rd enc Tryz.prog W 9 (([x0,x1,x2,x3,x4].drop 2).take (Tryz.prog.cellsOf 9)):=h2 2 _ rfl;rw[c2] at f2;obtain⟨n2,e2,l2⟩:=ZBy Tryz.underlying9 f2;have c3:Tryz.prog.cellsOf 3=1:=by kernel_rfl
 have f3:Rd enc Tryz.prog W 3 (([x0,x1,x2,x3,x4].drop 3).take (Tryz.prog.cellsOf 3)):=h2 3 _ rfl;rw[c3] at f3;obtain⟨n3,e3,l3⟩:=ZBZ Tryz.underlying3 f3;have c4:Tryz.prog.cellsOf 3=1:=by kernel_rfl
 have f4:Rd enc Tryz.prog W 3 (([x0,x1,x2,x3,x4].drop 4).take (Tryz.prog.cellsOf 3)):=h2 4 _ rfl;rw[c4] at f4;obtain⟨n4,e4,l4⟩:=ZBZ Tryz.underlying3 f4;simp at e0 e1 e2 e3 e4;subst e0;subst e1;subst e2;subst e3;subst e4;refine⟨⟨n0,n1,n2,n3,n4⟩,rfl,rfl,⟨l0,l1,l2,l3,l4⟩⟩
theorem ZSE (h:Rd enc Tryz.prog W 90 cs):∃v:ScK,cs.all (okv W.heap.size)=true/\ScKR (ro W) (cs.map nz) v/\v.Fit:=by
 have cS:Tryz.prog.cellsOf 90=4:=by kernel_rfl
 obtain⟨h1,h2⟩:=ZBm Tryz.underlying90 h;rw[cS] at h1;obtain⟨x0,x1,x2,x3,rfl⟩:∃x0 x1 x2 x3,cs=[x0,x1,x2,x3]:=by
  match cs,h1 with
  | [x0,x1,x2,x3],_=>exact⟨x0,x1,x2,x3,rfl⟩
 have c0:Tryz.prog.cellsOf 3=1:=by kernel_rfl
 have f0:Rd enc Tryz.prog W 3 (([x0,x1,x2,x3].drop 0).take (Tryz.prog.cellsOf 3)):=h2 0 _ rfl;rw[c0] at f0;obtain⟨n0,e0,l0⟩:=ZBZ Tryz.underlying3 f0;have c1:Tryz.prog.cellsOf 3=1:=by kernel_rfl
 have f1:Rd enc Tryz.prog W 3 (([x0,x1,x2,x3].drop 1).take (Tryz.prog.cellsOf 3)):=h2 1 _ rfl;rw[c1] at f1;obtain⟨n1,e1,l1⟩:=ZBZ Tryz.underlying3 f1;have c2:Tryz.prog.cellsOf 49=2:=by kernel_rfl
 have f2:Rd enc Tryz.prog W 49 (([x0,x1,x2,x3].drop 2).take (Tryz.prog.cellsOf 49)):=h2 2 _ rfl;rw[c2] at f2;obtain⟨n2,e2,l2,m2⟩:=ZPC f2;simp at e0 e1 e2;subst e0;subst e1;obtain⟨rfl,rfl⟩:=e2;refine⟨⟨n0,n1,n2⟩,rfl,rfl,⟨l0,l1,⟨l2,m2⟩⟩⟩
theorem ZRd (h:Rd enc Tryz.prog W 51 cs):∃v:ScL,cs.all (okv W.heap.size)=true/\ScLR (ro W) (cs.map nz) v/\v.Fit:=by
 have cS:Tryz.prog.cellsOf 51=4:=by kernel_rfl
 obtain⟨h1,h2⟩:=ZBm Tryz.underlying51 h;rw[cS] at h1;obtain⟨x0,x1,x2,x3,rfl⟩:∃x0 x1 x2 x3,cs=[x0,x1,x2,x3]:=by
  match cs,h1 with
  | [x0,x1,x2,x3],_=>exact⟨x0,x1,x2,x3,rfl⟩
 have c0:Tryz.prog.cellsOf 3=1:=by kernel_rfl
 have f0:Rd enc Tryz.prog W 3 (([x0,x1,x2,x3].drop 0).take (Tryz.prog.cellsOf 3)):=h2 0 _ rfl;rw[c0] at f0;obtain⟨n0,e0,l0⟩:=ZBZ Tryz.underlying3 f0;have c1:Tryz.prog.cellsOf 3=1:=by kernel_rfl
 have f1:Rd enc Tryz.prog W 3 (([x0,x1,x2,x3].drop 1).take (Tryz.prog.cellsOf 3)):=h2 1 _ rfl;rw[c1] at f1;obtain⟨n1,e1,l1⟩:=ZBZ Tryz.underlying3 f1;have c2:Tryz.prog.cellsOf 49=2:=by kernel_rfl
 have f2:Rd enc Tryz.prog W 49 (([x0,x1,x2,x3].drop 2).take (Tryz.prog.cellsOf 49)):=h2 2 _ rfl;rw[c2] at f2;obtain⟨n2,e2,l2,m2⟩:=ZPC f2;simp at e0 e1 e2;subst e0;subst e1;obtain⟨rfl,rfl⟩:=e2;refine⟨⟨n0,n1,n2⟩,rfl,rfl,⟨l0,l1,⟨l2,m2⟩⟩⟩
theorem ZRO (h:Rd enc Tryz.prog W 42 cs):∃v:ScS,cs.all (okv W.heap.size)=true/\ScSR (ro W) (cs.map nz) v/\v.Fit:=by
 have cS:Tryz.prog.cellsOf 42=6:=by kernel_rfl
 obtain⟨h1,h2⟩:=ZBm Tryz.underlying42 h;rw[cS] at h1;obtain⟨x0,x1,x2,x3,x4,x5,rfl⟩:∃x0 x1 x2 x3 x4 x5,cs=[x0,x1,x2,x3,x4,x5]:=by
  match cs,h1 with
  | [x0,x1,x2,x3,x4,x5],_=>exact⟨x0,x1,x2,x3,x4,x5,rfl⟩
 have c0:Tryz.prog.cellsOf 3=1:=by kernel_rfl
 have f0:Rd enc Tryz.prog W 3 (([x0,x1,x2,x3,x4,x5].drop 0).take (Tryz.prog.cellsOf 3)):=h2 0 _ rfl;rw[c0] at f0;obtain⟨n0,e0,l0⟩:=ZBZ Tryz.underlying3 f0;have c1:Tryz.prog.cellsOf 3=1:=by kernel_rfl
 have f1:Rd enc Tryz.prog W 3 (([x0,x1,x2,x3,x4,x5].drop 1).take (Tryz.prog.cellsOf 3)):=h2 1 _ rfl;rw[c1] at f1;obtain⟨n1,e1,l1⟩:=ZBZ Tryz.underlying3 f1;have c2:Tryz.prog.cellsOf 3=1:=by kernel_rfl
 have f2:Rd enc Tryz.prog W 3 (([x0,x1,x2,x3,x4,x5].drop 2).take (Tryz.prog.cellsOf 3)):=h2 2 _ rfl;rw[c2] at f2;obtain⟨n2,e2,l2⟩:=ZBZ Tryz.underlying3 f2;have c3:Tryz.prog.cellsOf 3=1:=by kernel_rfl
 have f3:Rd enc Tryz.prog W 3 (([x0,x1,x2,x3,x4,x5].drop 3).take (Tryz.prog.cellsOf 3)):=h2 3 _ rfl;rw[c3] at f3;obtain⟨n3,e3,l3⟩:=ZBZ Tryz.underlying3 f3;have c4:Tryz.prog.cellsOf 3=1:=by kernel_rfl
 have f4:Rd enc Tryz.prog W 3 (([x0,x1,x2,x3,x4,x5].drop 4).take (Tryz.prog.cellsOf 3)):=h2 4 _ rfl;rw[c4] at f4;obtain⟨n4,e4,l4⟩:=ZBZ Tryz.underlying3 f4;have c5:Tryz.prog.cellsOf 3=1:=by kernel_rfl
 have f5:Rd enc Tryz.prog W 3 (([x0,x1,x2,x3,x4,x5].drop 5).take (Tryz.prog.cellsOf 3)):=h2 5 _ rfl;rw[c5] at f5;obtain⟨n5,e5,l5⟩:=ZBZ Tryz.underlying3 f5;simp at e0 e1 e2 e3 e4 e5;subst e0;subst e1;subst e2;subst e3;subst e4;subst e5;refine⟨⟨n0,n1,n2,n3,n4,n5⟩,rfl,rfl,⟨l0,l1,l2,l3,l4,l5⟩⟩
theorem ZNs (h:Rd enc Tryz.prog W 31 cs):∃v:ScT,cs.all (okv W.heap.size)=true/\ZBX (ro W) (cs.map nz) v/\v.Fit:=by
 have cS:Tryz.prog.cellsOf 31=9:=by kernel_rfl
 obtain⟨h1,h2⟩:=ZBm Tryz.underlying31 h;rw[cS] at h1;obtain⟨x0,x1,x2,x3,x4,x5,x6,x7,x8,rfl⟩:∃x0 x1 x2 x3 x4 x5 x6 x7 x8,cs=[x0,x1,x2,x3,x4,x5,x6,x7,x8]:=by
  match cs,h1 with
  | [x0,x1,x2,x3,x4,x5,x6,x7,x8],_=>exact⟨x0,x1,x2,x3,x4,x5,x6,x7,x8,rfl⟩
 have c0:Tryz.prog.cellsOf 3=1:=by kernel_rfl
 have f0:Rd enc Tryz.prog W 3 (([x0,x1,x2,x3,x4,x5,x6,x7,x8].drop 0).take (Tryz.prog.cellsOf 3)):=h2 0 _ rfl;rw[c0] at f0;obtain⟨n0,e0,l0⟩:=ZBZ Tryz.underlying3 f0;have c1:Tryz.prog.cellsOf 22=1:=by kernel_rfl
 have f1:Rd enc Tryz.prog W 22 (([x0,x1,x2,x3,x4,x5,x6,x7,x8].drop 1).take (Tryz.prog.cellsOf 22)):=h2 1 _ rfl;rw[c1] at f1;obtain⟨v1,a1,n1,cap1,e1,ok1,nz1,hI1,hL1,hF1⟩:=ZPU f1;have c2:Tryz.prog.cellsOf 23=1:=by kernel_rfl
 have f2:Rd enc Tryz.prog W 23 (([x0,x1,x2,x3,x4,x5,x6,x7,x8].drop 2).take (Tryz.prog.cellsOf 23)):=h2 2 _ rfl;rw[c2] at f2;obtain⟨v2,a2,n2,cap2,e2,ok2,nz2,hI2,hL2,hF2⟩:=ZDf (R:=ZCG) (Fit:=fun l=>Len l/\∀n∈l,I64 n) Tryz.underlying23 (k:=1) (by kernel_rfl) (by decide) (fun row hr=>ZQ8 hr) f2;have c3:Tryz.prog.cellsOf 24=1:=by kernel_rfl
 have f3:Rd enc Tryz.prog W 24 (([x0,x1,x2,x3,x4,x5,x6,x7,x8].drop 3).take (Tryz.prog.cellsOf 24)):=h2 3 _ rfl;rw[c3] at f3;obtain⟨v3,a3,n3,cap3,e3,ok3,nz3,hI3,hL3,hF3⟩:=ZDf (R:=ScVR) (Fit:=ScV.Fit) Tryz.underlying24 (k:=9) (by kernel_rfl) (by decide) (fun row hr=>ZPR hr) f3;have c4:Tryz.prog.cellsOf 25=1:=by kernel_rfl
 have f4:Rd enc Tryz.prog W 25 (([x0,x1,x2,x3,x4,x5,x6,x7,x8].drop 4).take (Tryz.prog.cellsOf 25)):=h2 4 _ rfl;rw[c4] at f4;obtain⟨v4,a4,n4,cap4,e4,ok4,nz4,hI4,hL4,hF4⟩:=ZDf (R:=ScRR) (Fit:=ScR.Fit) Tryz.underlying25 (k:=5) (by kernel_rfl) (by decide) (fun row hr=>ZPj hr) f4;have c5:Tryz.prog.cellsOf 26=1:=by kernel_rfl
 have f5:Rd enc Tryz.prog W 26 (([x0,x1,x2,x3,x4,x5,x6,x7,x8].drop 5).take (Tryz.prog.cellsOf 26)):=h2 5 _ rfl;rw[c5] at f5;obtain⟨v5,a5,n5,cap5,e5,ok5,nz5,hI5,hL5,hF5⟩:=ZDf (R:=ScPR) (Fit:=ScP.Fit) Tryz.underlying26 (k:=7) (by kernel_rfl) (by decide) (fun row hr=>ZQL hr) f5;have c6:Tryz.prog.cellsOf 27=1:=by kernel_rfl
 have f6:Rd enc Tryz.prog W 27 (([x0,x1,x2,x3,x4,x5,x6,x7,x8].drop 6).take (Tryz.prog.cellsOf 27)):=h2 6 _ rfl;rw[c6] at f6;obtain⟨v6,a6,n6,cap6,e6,ok6,nz6,hI6,hL6,hF6⟩:=ZDf (R:=ZEV) (Fit:=ScPk.Fit) Tryz.underlying27 (k:=5) (by kernel_rfl) (by decide) (fun row hr=>ZRg hr) f6;have c7:Tryz.prog.cellsOf 28=1:=by kernel_rfl
 have f7:Rd enc Tryz.prog W 28 (([x0,x1,x2,x3,x4,x5,x6,x7,x8].drop 7).take (Tryz.prog.cellsOf 28)):=h2 7 _ rfl;rw[c7] at f7;obtain⟨v7,a7,n7,cap7,e7,ok7,nz7,hI7,hL7,hF7⟩:=ZDf (R:=ScKR) (Fit:=ScK.Fit) Tryz.underlying28 (k:=4) (by kernel_rfl) (by decide) (fun row hr=>ZSE hr) f7;have c8:Tryz.prog.cellsOf 29=1:=by kernel_rfl
 have f8:Rd enc Tryz.prog W 29 (([x0,x1,x2,x3,x4,x5,x6,x7,x8].drop 8).take (Tryz.prog.cellsOf 29)):=h2 8 _ rfl;rw[c8] at f8;obtain⟨v8,a8,n8,cap8,e8,ok8,nz8,hI8,hL8,hF8⟩:=ZDf (R:=ScLR) (Fit:=ScL.Fit) Tryz.underlying29 (k:=4) (by kernel_rfl) (by decide) (fun row hr=>ZRd hr) f8;simp at e0 e1 e2 e3 e4 e5 e6 e7 e8;subst e0;subst e1;subst e2;subst e3;subst e4;subst e5;subst e6;subst e7;subst e8;refine⟨⟨n0,n1,n2,n3,n4,n5,n6,n7,n8⟩,?_,⟨a1,cap1,a2,cap2,a3,cap3,a4,cap4,a5,cap5,a6,cap6,a7,cap7,a8,cap8,?_,hI1,hI2,hI3,hI4,hI5,hI6,hI7,hI8⟩,⟨l0,hL1,hF1,hL2,hF2,hL3,hF3,hL4,hF4,hL5,hF5,hL6,hF6,hL7,hF7,hL8,hF8⟩⟩
 ·simp[ok1,ok2,ok3,ok4,ok5,ok6,ok7,ok8]
  try (repeat' constructor)
 ·simp only[List.map_cons,List.map_nil,nz1,nz2,nz3,nz4,nz5,nz6,nz7,nz8];rfl
end
section
variable {P:Program}{H:Type}{enc:TypeId×Value->H}{W:World}{cs:List Value}{t e:TypeId}
theorem ZPS (h:Rd enc Tryz.prog W 80 cs):∃v a l cap,cs=[v]/\okv W.heap.size v=true/\nz v=.slice a l.length cap/\ZAN 6 ScSR (ro W) a l/\Len l/\∀s∈l,s.Fit :=
 ZDf (R:=ScSR) (Fit:=ScS.Fit) Tryz.underlying80 (k:=6) (by kernel_rfl) (by decide) (fun row hr=>ZRO hr) h
end
section
variable {H:Type}{enc:TypeId×Value->H}{W:World}{cs:List Value}
end
section
variable {H:Type}{enc:TypeId×Value->H}{W:World}{cs:List Value}
theorem ZPx (h:Rd enc Tryz.prog W 110 cs):∃x:Int×Int,cs.all (okv W.heap.size)=true/\PrR (ro W) (cs.map nz) x/\(I64 x.1/\I64 x.2):=by
 have cS:Tryz.prog.cellsOf 110=2:=by kernel_rfl
 have c3:Tryz.prog.cellsOf 3=1:=by kernel_rfl
 obtain⟨h1,h2⟩:=ZBm Tryz.underlying110 h;rw[cS] at h1;obtain⟨x0,x1,rfl⟩:∃x0 x1,cs=[x0,x1]:=by
  match cs,h1 with
  | [x0,x1],_=>exact⟨x0,x1,rfl⟩
 have f0:Rd enc Tryz.prog W 3 (([x0,x1].drop 0).take (Tryz.prog.cellsOf 3)):=h2 0 _ rfl;have f1:Rd enc Tryz.prog W 3 (([x0,x1].drop 1).take (Tryz.prog.cellsOf 3)):=h2 1 _ rfl;rw[c3] at f0 f1;obtain⟨n0,e0,l0⟩:=ZBZ Tryz.underlying3 f0;obtain⟨n1,e1,l1⟩:=ZBZ Tryz.underlying3 f1;simp at e0 e1;subst e0;subst e1;exact⟨⟨n0,n1⟩,rfl,rfl,⟨l0,l1⟩⟩
theorem ZO5 (h:Rd enc Tryz.prog W 95 cs):∃(v:Int)(l:List (Int×Int))(a:Option Addr)(cap:Nat),cs.all (okv W.heap.size)=true/\cs.map nz=[i64 v,.slice a l.length cap]/\I64 v/\ZAN 2 PrR (ro W) a l/\Len l:=by
 have cS:Tryz.prog.cellsOf 95=2:=by kernel_rfl
 have c3:Tryz.prog.cellsOf 3=1:=by kernel_rfl
 have c9:Tryz.prog.cellsOf 93=1:=by kernel_rfl
 obtain⟨h1,h2⟩:=ZBm Tryz.underlying95 h;rw[cS] at h1;obtain⟨x0,x1,rfl⟩:∃x0 x1,cs=[x0,x1]:=by
  match cs,h1 with
  | [x0,x1],_=>exact⟨x0,x1,rfl⟩
 have f0:Rd enc Tryz.prog W 3 (([x0,x1].drop 0).take (Tryz.prog.cellsOf 3)):=h2 0 _ rfl;have f1:Rd enc Tryz.prog W 93 (([x0,x1].drop 1).take (Tryz.prog.cellsOf 93)):=h2 1 _ rfl;rw[c3] at f0;rw[c9] at f1;obtain⟨n0,e0,l0⟩:=ZBZ Tryz.underlying3 f0;obtain⟨v1,a1,l1,cap1,e1,ok1,nz1,hI1,hL1,-⟩:=ZDf (R:=PrR) (Fit:=fun x=>I64 x.1/\I64 x.2) Tryz.underlying93 (k:=2) (by kernel_rfl) (by decide) (fun row hr=>ZPx hr) f1;simp at e0 e1;subst e0;subst e1;refine⟨n0,l1,a1,cap1,?_,?_,l0,hI1,hL1⟩
 ·simp[ok1]
  rfl
 ·simp[nz1]
  rfl
end
end Go.Dw
