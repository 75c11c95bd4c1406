/- RX: reading the arguments of TopStocked. -/
import Derived.OpenShut
import Derived.Test.YtdfadhkbhbbabaaGreatDoorAG25
import Derived.Test.YtdfadhkbhbbabaaGreatDoorAG7
set_option linter.unusedVariables false
set_option linter.unusedSimpArgs false
namespace Go.Dw
open Go Go.Dx Go.Proofs
set_option maxRecDepth 100000
section
variable {H:Type}{enc:TypeId×Value->H}{W:World}{cs:List Value}{t e:TypeId}
theorem ZVg {P:Program}(ht:P.underlying t=some (.int .u8))(h:Rd enc P W t cs):∃n,cs=[.int .u8 n]/\0<=n/\n<256:=by
 obtain⟨m,x,hx⟩:=h;obtain⟨n,h1,_,h3⟩:=DataW.trod_int ht hx;refine⟨n,h1,?_⟩;simp[Lit.wf] at h3;have h4:IntKind.u8.min=0:=by decide
 have h5:IntKind.u8.max=255:=by decide
 omega
theorem ZMC (h:Rd enc Tryz.prog W 25 cs):∃a b:Int,cs=[i64 a,i64 b]:=by
 have cS:Tryz.prog.cellsOf 25=2:=by kernel_rfl
 obtain⟨h1,h2⟩:=ZDT Tryz.underlying25 h;rw[cS] at h1;obtain⟨x0,x1,rfl⟩:∃x0 x1,cs=[x0,x1]:=by
  match cs,h1 with
  | [x0,x1],_=>exact⟨x0,x1,rfl⟩
 have f0:Rd enc Tryz.prog W 3 (([x0,x1].drop 0).take (Tryz.prog.cellsOf 3)):=h2 0 _ rfl;rw[show Tryz.prog.cellsOf 3=1 by kernel_rfl] at f0;simp only[List.drop_zero,List.drop_succ_cons,List.take_succ_cons,List.take_zero] at f0;have f1:Rd enc Tryz.prog W 3 (([x0,x1].drop 1).take (Tryz.prog.cellsOf 3)):=h2 1 _ rfl;rw[show Tryz.prog.cellsOf 3=1 by kernel_rfl] at f1;simp only[List.drop_zero,List.drop_succ_cons,List.take_succ_cons,List.take_zero] at f1;obtain⟨n0,e0,q0⟩:=ZDP Tryz.underlying3 f0;simp only[List.cons.injEq,and_true] at e0;subst e0;obtain⟨n1,e1,q1⟩:=ZDP Tryz.underlying3 f1;simp only[List.cons.injEq,and_true] at e1
 subst e1;exact⟨n0,n1,rfl⟩
theorem ZUO (h:Rd enc Tryz.prog W 62 cs):∃x:Int×Int,cs.all (okv W.heap.size)=true/\cs.map nz=rowP x/\True:=by
 have cS:Tryz.prog.cellsOf 62=2:=by kernel_rfl
 obtain⟨h1,h2⟩:=ZDT Tryz.underlying62 h;rw[cS] at h1;obtain⟨x0,x1,rfl⟩:∃x0 x1,cs=[x0,x1]:=by
  match cs,h1 with
  | [x0,x1],_=>exact⟨x0,x1,rfl⟩
 have f0:Rd enc Tryz.prog W 3 (([x0,x1].drop 0).take (Tryz.prog.cellsOf 3)):=h2 0 _ rfl;rw[show Tryz.prog.cellsOf 3=1 by kernel_rfl] at f0;simp only[List.drop_zero,List.drop_succ_cons,List.take_succ_cons,List.take_zero] at f0;have f1:Rd enc Tryz.prog W 3 (([x0,x1].drop 1).take (Tryz.prog.cellsOf 3)):=h2 1 _ rfl;rw[show Tryz.prog.cellsOf 3=1 by kernel_rfl] at f1;simp only[List.drop_zero,List.drop_succ_cons,List.take_succ_cons,List.take_zero] at f1;obtain⟨n0,e0,q0⟩:=ZDP Tryz.underlying3 f0;simp only[List.cons.injEq,and_true] at e0;subst e0;obtain⟨n1,e1,q1⟩:=ZDP Tryz.underlying3 f1;simp only[List.cons.injEq,and_true] at e1
 subst e1;exact⟨(n0,n1),rfl,rfl,trivial⟩
theorem ZUW (h:Rd enc Tryz.prog W 39 cs):∃x:Mv,cs.all (okv W.heap.size)=true/\cs.map nz=ZBW x/\True:=by
 have cS:Tryz.prog.cellsOf 39=3:=by kernel_rfl
 obtain⟨h1,h2⟩:=ZDT Tryz.underlying39 h;rw[cS] at h1;obtain⟨x0,x1,x2,rfl⟩:∃x0 x1 x2,cs=[x0,x1,x2]:=by
  match cs,h1 with
  | [x0,x1,x2],_=>exact⟨x0,x1,x2,rfl⟩
 have f0:Rd enc Tryz.prog W 3 (([x0,x1,x2].drop 0).take (Tryz.prog.cellsOf 3)):=h2 0 _ rfl;rw[show Tryz.prog.cellsOf 3=1 by kernel_rfl] at f0;simp only[List.drop_zero,List.drop_succ_cons,List.take_succ_cons,List.take_zero] at f0;have f1:Rd enc Tryz.prog W 3 (([x0,x1,x2].drop 1).take (Tryz.prog.cellsOf 3)):=h2 1 _ rfl;rw[show Tryz.prog.cellsOf 3=1 by kernel_rfl] at f1;simp only[List.drop_zero,List.drop_succ_cons,List.take_succ_cons,List.take_zero] at f1;have f2:Rd enc Tryz.prog W 3 (([x0,x1,x2].drop 2).take (Tryz.prog.cellsOf 3)):=h2 2 _ rfl;rw[show Tryz.prog.cellsOf 3=1 by kernel_rfl] at f2;simp only[List.drop_zero,List.drop_succ_cons,List.take_succ_cons,List.take_zero] at f2
 obtain⟨n0,e0,q0⟩:=ZDP Tryz.underlying3 f0;simp only[List.cons.injEq,and_true] at e0;subst e0;obtain⟨n1,e1,q1⟩:=ZDP Tryz.underlying3 f1;simp only[List.cons.injEq,and_true] at e1;subst e1;obtain⟨n2,e2,q2⟩:=ZDP Tryz.underlying3 f2;simp only[List.cons.injEq,and_true] at e2;subst e2;exact⟨⟨n0,n1,n2⟩,rfl,rfl,trivial⟩
theorem ZVH (h:Rd enc Tryz.prog W 41 cs):∃x:Cn,cs.all (okv W.heap.size)=true/\cs.map nz=ZCz x/\Len x.name:=by
 have cS:Tryz.prog.cellsOf 41=4:=by kernel_rfl
 obtain⟨h1,h2⟩:=ZDT Tryz.underlying41 h;rw[cS] at h1;obtain⟨x0,x1,x2,x3,rfl⟩:∃x0 x1 x2 x3,cs=[x0,x1,x2,x3]:=by
  match cs,h1 with
  | [x0,x1,x2,x3],_=>exact⟨x0,x1,x2,x3,rfl⟩
 have f0:Rd enc Tryz.prog W 9 (([x0,x1,x2,x3].drop 0).take (Tryz.prog.cellsOf 9)):=h2 0 _ rfl;rw[show Tryz.prog.cellsOf 9=1 by kernel_rfl] at f0;simp only[List.drop_zero,List.drop_succ_cons,List.take_succ_cons,List.take_zero] at f0;have f1:Rd enc Tryz.prog W 3 (([x0,x1,x2,x3].drop 1).take (Tryz.prog.cellsOf 3)):=h2 1 _ rfl;rw[show Tryz.prog.cellsOf 3=1 by kernel_rfl] at f1;simp only[List.drop_zero,List.drop_succ_cons,List.take_succ_cons,List.take_zero] at f1;have f2:Rd enc Tryz.prog W 3 (([x0,x1,x2,x3].drop 2).take (Tryz.prog.cellsOf 3)):=h2 2 _ rfl;rw[show Tryz.prog.cellsOf 3=1 by kernel_rfl] at f2
 simp only[List.drop_zero,List.drop_succ_cons,List.take_succ_cons,List.take_zero] at f2;have f3:Rd enc Tryz.prog W 3 (([x0,x1,x2,x3].drop 3).take (Tryz.prog.cellsOf 3)):=h2 3 _ rfl;rw[show Tryz.prog.cellsOf 3=1 by kernel_rfl] at f3;simp only[List.drop_zero,List.drop_succ_cons,List.take_succ_cons,List.take_zero] at f3;obtain⟨n0,e0,q0⟩:=ZLg Tryz.underlying9 f0;simp only[List.cons.injEq,and_true] at e0;subst e0;obtain⟨n1,e1,q1⟩:=ZDP Tryz.underlying3 f1;simp only[List.cons.injEq,and_true] at e1;subst e1;obtain⟨n2,e2,q2⟩:=ZDP Tryz.underlying3 f2;simp only[List.cons.injEq,and_true] at e2;subst e2;obtain⟨n3,e3,q3⟩:=ZDP Tryz.underlying3 f3
 simp only[List.cons.injEq,and_true] at e3;subst e3;exact⟨⟨n0,n1,n2,n3⟩,rfl,rfl,q0⟩
theorem ZTy (h:Rd enc Tryz.prog W 43 cs):∃x:Rm,cs.all (okv W.heap.size)=true/\cs.map nz=ZB3 x/\Len x.name:=by
 have cS:Tryz.prog.cellsOf 43=10:=by kernel_rfl
 obtain⟨h1,h2⟩:=ZDT Tryz.underlying43 h;rw[cS] at h1;obtain⟨x0,x1,x2,x3,x4,x5,x6,x7,x8,x9,rfl⟩:∃x0 x1 x2 x3 x4 x5 x6 x7 x8 x9,cs=[x0,x1,x2,x3,x4,x5,x6,x7,x8,x9]:=by
  match cs,h1 with
  | [x0,x1,x2,x3,x4,x5,x6,x7,x8,x9],_=>exact⟨x0,x1,x2,x3,x4,x5,x6,x7,x8,x9,rfl⟩
 have f0:Rd enc Tryz.prog W 9 (([x0,x1,x2,x3,x4,x5,x6,x7,x8,x9].drop 0).take (Tryz.prog.cellsOf 9)):=h2 0 _ rfl;rw[show Tryz.prog.cellsOf 9=1 by kernel_rfl] at f0;simp only[List.drop_zero,List.drop_succ_cons,List.take_succ_cons,List.take_zero] at f0;have f1:Rd enc Tryz.prog W 25 (([x0,x1,x2,x3,x4,x5,x6,x7,x8,x9].drop 1).take (Tryz.prog.cellsOf 25)):=h2 1 _ rfl;rw[show Tryz.prog.cellsOf 25=2 by kernel_rfl] at f1;simp only[List.drop_zero,List.drop_succ_cons,List.take_succ_cons,List.take_zero] at f1;have f2:Rd enc Tryz.prog W 25 (([x0,x1,x2,x3,x4,x5,x6,x7,x8,x9].drop 3).take (Tryz.prog.cellsOf 25)):=h2 2 _ rfl
 rw[show Tryz.prog.cellsOf 25=2 by kernel_rfl] at f2;simp only[List.drop_zero,List.drop_succ_cons,List.take_succ_cons,List.take_zero] at f2;have f3:Rd enc Tryz.prog W 4 (([x0,x1,x2,x3,x4,x5,x6,x7,x8,x9].drop 5).take (Tryz.prog.cellsOf 4)):=h2 3 _ rfl;rw[show Tryz.prog.cellsOf 4=1 by kernel_rfl] at f3;simp only[List.drop_zero,List.drop_succ_cons,List.take_succ_cons,List.take_zero] at f3;have f4:Rd enc Tryz.prog W 4 (([x0,x1,x2,x3,x4,x5,x6,x7,x8,x9].drop 6).take (Tryz.prog.cellsOf 4)):=h2 4 _ rfl;rw[show Tryz.prog.cellsOf 4=1 by kernel_rfl] at f4;simp only[List.drop_zero,List.drop_succ_cons,List.take_succ_cons,List.take_zero] at f4
 have f5:Rd enc Tryz.prog W 3 (([x0,x1,x2,x3,x4,x5,x6,x7,x8,x9].drop 7).take (Tryz.prog.cellsOf 3)):=h2 5 _ rfl;rw[show Tryz.prog.cellsOf 3=1 by kernel_rfl] at f5;simp only[List.drop_zero,List.drop_succ_cons,List.take_succ_cons,List.take_zero] at f5;have f6:Rd enc Tryz.prog W 3 (([x0,x1,x2,x3,x4,x5,x6,x7,x8,x9].drop 8).take (Tryz.prog.cellsOf 3)):=h2 6 _ rfl;rw[show Tryz.prog.cellsOf 3=1 by kernel_rfl] at f6;simp only[List.drop_zero,List.drop_succ_cons,List.take_succ_cons,List.take_zero] at f6;have f7:Rd enc Tryz.prog W 3 (([x0,x1,x2,x3,x4,x5,x6,x7,x8,x9].drop 9).take (Tryz.prog.cellsOf 3)):=h2 7 _ rfl
 rw[show Tryz.prog.cellsOf 3=1 by kernel_rfl] at f7;simp only[List.drop_zero,List.drop_succ_cons,List.take_succ_cons,List.take_zero] at f7;obtain⟨n0,e0,q0⟩:=ZLg Tryz.underlying9 f0;simp only[List.cons.injEq,and_true] at e0;subst e0;obtain⟨l1,m1,e1⟩:=ZMC f1;simp only[List.cons.injEq,and_true] at e1;obtain⟨rfl,rfl⟩:=e1;obtain⟨l2,m2,e2⟩:=ZMC f2;simp only[List.cons.injEq,and_true] at e2;obtain⟨rfl,rfl⟩:=e2;obtain⟨n3,e3⟩:=ZQj Tryz.underlying4 f3;simp only[List.cons.injEq,and_true] at e3;subst e3;obtain⟨n4,e4⟩:=ZQj Tryz.underlying4 f4;simp only[List.cons.injEq,and_true] at e4;subst e4;obtain⟨n5,e5,q5⟩:=ZDP Tryz.underlying3 f5
 simp only[List.cons.injEq,and_true] at e5;subst e5;obtain⟨n6,e6,q6⟩:=ZDP Tryz.underlying3 f6;simp only[List.cons.injEq,and_true] at e6;subst e6;obtain⟨n7,e7,q7⟩:=ZDP Tryz.underlying3 f7;simp only[List.cons.injEq,and_true] at e7;subst e7;exact⟨⟨n0,l1,m1,l2,m2,n3,n4,n5,n6,n7⟩,rfl,rfl,q0⟩
theorem ZRv (h:Rd enc Tryz.prog W 26 cs):∃v a l c,cs=[v]/\okv W.heap.size v=true/\nz v=.slice a l.length c/\TabA rowP 2 (ro W) a l/\Len l/\∀x∈l,True :=
 ZJa (R:=fun _ row x=>row=rowP x) (Fit:=fun x:Int×Int=>True) Tryz.underlying26 (k:=2) (by kernel_rfl) (by decide) (fun row hr=>ZUO hr) h
theorem ZR5 (h:Rd enc Tryz.prog W 29 cs):∃v a l c,cs=[v]/\okv W.heap.size v=true/\nz v=.slice a l.length c/\TabA ZBW 3 (ro W) a l/\Len l/\∀x∈l,True :=
 ZJa (R:=fun _ row x=>row=ZBW x) (Fit:=fun x:Mv=>True) Tryz.underlying29 (k:=3) (by kernel_rfl) (by decide) (fun row hr=>ZUW hr) h
theorem ZUC (h:Rd enc Tryz.prog W 23 cs):∃v a l c,cs=[v]/\okv W.heap.size v=true/\nz v=.slice a l.length c/\TabA ZCz 4 (ro W) a l/\Len l/\∀x∈l,Len x.name :=
 ZJa (R:=fun _ row x=>row=ZCz x) (Fit:=fun x:Cn=>Len x.name) Tryz.underlying23 (k:=4) (by kernel_rfl) (by decide) (fun row hr=>ZVH hr) h
theorem ZSw (h:Rd enc Tryz.prog W 22 cs):∃v a l c,cs=[v]/\okv W.heap.size v=true/\nz v=.slice a l.length c/\TabA ZB3 10 (ro W) a l/\Len l/\∀x∈l,Len x.name :=
 ZJa (R:=fun _ row x=>row=ZB3 x) (Fit:=fun x:Rm=>Len x.name) Tryz.underlying22 (k:=10) (by kernel_rfl) (by decide) (fun row hr=>ZTy hr) h
theorem ZTl (h:Rd enc Tryz.prog W 28 cs):∃(s:Si)(d:SAd),cs.all (okv W.heap.size)=true/\cs.map nz=ZFh s d/\SiAt (ro W) s d/\ZQ3 s:=by
 have cS:Tryz.prog.cellsOf 28=5:=by kernel_rfl
 obtain⟨h1,h2⟩:=ZDT Tryz.underlying28 h;rw[cS] at h1;obtain⟨x0,x1,x2,x3,x4,rfl⟩:∃x0 x1 x2 x3 x4,cs=[x0,x1,x2,x3,x4]:=by
  match cs,h1 with
  | [x0,x1,x2,x3,x4],_=>exact⟨x0,x1,x2,x3,x4,rfl⟩
 have f0:Rd enc Tryz.prog W 22 (([x0,x1,x2,x3,x4].drop 0).take (Tryz.prog.cellsOf 22)):=h2 0 _ rfl;rw[show Tryz.prog.cellsOf 22=1 by kernel_rfl] at f0;simp only[List.drop_zero,List.drop_succ_cons,List.take_succ_cons,List.take_zero] at f0;have f1:Rd enc Tryz.prog W 23 (([x0,x1,x2,x3,x4].drop 1).take (Tryz.prog.cellsOf 23)):=h2 1 _ rfl;rw[show Tryz.prog.cellsOf 23=1 by kernel_rfl] at f1;simp only[List.drop_zero,List.drop_succ_cons,List.take_succ_cons,List.take_zero] at f1;have f2:Rd enc Tryz.prog W 25 (([x0,x1,x2,x3,x4].drop 2).take (Tryz.prog.cellsOf 25)):=h2 2 _ rfl;rw[show Tryz.prog.cellsOf 25=2 by kernel_rfl] at f2
 simp only[List.drop_zero,List.drop_succ_cons,List.take_succ_cons,List.take_zero] at f2;have f3:Rd enc Tryz.prog W 26 (([x0,x1,x2,x3,x4].drop 4).take (Tryz.prog.cellsOf 26)):=h2 3 _ rfl;rw[show Tryz.prog.cellsOf 26=1 by kernel_rfl] at f3;simp only[List.drop_zero,List.drop_succ_cons,List.take_succ_cons,List.take_zero] at f3;obtain⟨v0,a0,n0,c0,e0,ok0,nz0,hI0,hL0,hF0⟩:=ZSw f0;simp only[List.cons.injEq,and_true] at e0;subst e0;obtain⟨v1,a1,n1,c1,e1,ok1,nz1,hI1,hL1,hF1⟩:=ZUC f1;simp only[List.cons.injEq,and_true] at e1;subst e1;obtain⟨l2,m2,e2⟩:=ZMC f2;simp only[List.cons.injEq,and_true] at e2;obtain⟨rfl,rfl⟩:=e2
 obtain⟨v3,a3,n3,c3,e3,ok3,nz3,hI3,hL3,hF3⟩:=ZRv f3;simp only[List.cons.injEq,and_true] at e3;subst e3;refine⟨⟨n0,n1,l2,m2,n3⟩,⟨a0,c0,a1,c1,a3,c3⟩,?_,?_,⟨hI0,hI1,hI3⟩,⟨hL0,hL1,hL3,hF0,hF1⟩⟩
 ·simp[ok0,ok1,ok3]
  try (repeat' constructor)
 ·simp only[List.map_cons,List.map_nil,nz0,nz1,nz3];rfl
end
end Go.Dw
