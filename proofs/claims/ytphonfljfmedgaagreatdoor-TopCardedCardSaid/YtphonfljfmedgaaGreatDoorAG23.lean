/- RX: reading the arguments of TopCarded, with their weights. -/
import Derived.OpenShut
import Derived.Test.YtphonfljfmedgaaGreatDoorAG21
import Derived.Test.YtphonfljfmedgaaGreatDoorAG13
set_option linter.unusedVariables false
set_option linter.unusedSimpArgs false
namespace Go.Dw
open Go Go.Dx Go.Proofs
set_option maxRecDepth 100000
section
variable {P:Program}{H:Type}{enc:TypeId×Value->H}{W:World}{cs:List Value}{t e:TypeId}
theorem ZIR (ht:P.underlying t=some .string)(h:RdW enc P W t cs):∃s:Str,cs=[str s]/\s.length<=140737488351232:=by
 obtain⟨m,x,hx,hw⟩:=h;obtain⟨⟨⟨s⟩⟩,h1,h2,h3⟩:=DataW.trod_string ht hx;refine⟨s,h1,?_⟩;rw[h2] at hw;have:=hw s.length (by simp[DataW.weights]);exact this
theorem ZR7 (ht:P.underlying t=some (.int .u16))(h:Rd enc P W t cs):∃n,cs=[.int .u16 n]/\0<=n/\n<65536:=by
 obtain⟨m,x,hx⟩:=h;obtain⟨n,h1,_,h3⟩:=DataW.trod_int ht hx;refine⟨n,h1,?_⟩;simp[Lit.wf] at h3;have h4:IntKind.u16.min=0:=by decide
 have h5:IntKind.u16.max=65535:=by decide
 omega
theorem ZQI (h:Rd enc Tryz.prog W 34 cs):∃a b:Int,cs=[.int .u16 a,.int .u16 b]/\(0<=a/\a<65536)/\0<=b/\b<65536:=by
 obtain⟨m,x,hx⟩:=h;have c5:Tryz.prog.cellsOf 33=1:=by kernel_rfl
 have c69:Tryz.prog.cellsOf 34=2:=by kernel_rfl
 obtain⟨ys,n,q1,q2,q3,q4,q5⟩:=DataW.trod_array Tryz.underlying34 hx;rw[c69] at q3;rw[c5] at q5;obtain⟨x0,x1,rfl⟩:∃x0 x1,cs=[x0,x1]:=by
  match cs,q3 with
  | [x0,x1],_=>exact⟨x0,x1,rfl⟩
 have hy:∀i,i<2->∃y,ys[i]?=some y:=fun i hi=>⟨ys[i]'(by omega),List.getElem?_eq_getElem _⟩;obtain⟨y0,hy0⟩:=hy 0 (by decide);obtain⟨y1,hy1⟩:=hy 1 (by decide);have f0:Rd enc Tryz.prog W 33 [x0]:=⟨n,y0,(q5 0 (by decide)).trans hy0⟩;have f1:Rd enc Tryz.prog W 33 [x1]:=⟨n,y1,(q5 1 (by decide)).trans hy1⟩;obtain⟨a,ea,ha⟩:=ZR7 Tryz.underlying33 f0;obtain⟨b,eb,hb⟩:=ZR7 Tryz.underlying33 f1;simp only[List.cons.injEq,and_true] at ea eb;subst ea;subst eb;exact⟨a,b,rfl,ha,hb⟩
theorem ZKo (h:RdW enc Tryz.prog W 23 cs):∃a b:Int,cs=[i64 a,i64 b]:=by
 have cS:Tryz.prog.cellsOf 23=2:=by kernel_rfl
 have h1:=(ZDB Tryz.underlying23 h.rd).1;have h2:=ZCS Tryz.underlying23 h;rw[cS] at h1;obtain⟨x0,x1,rfl⟩:∃x0 x1,cs=[x0,x1]:=by
  match cs,h1 with
  | [x0,x1],_=>exact⟨x0,x1,rfl⟩
 have f0:RdW enc Tryz.prog W 3 (([x0,x1].drop 0).take (Tryz.prog.cellsOf 3)):=h2 0 _ rfl;rw[show Tryz.prog.cellsOf 3=1 by kernel_rfl] at f0;simp only[List.drop_zero,List.drop_succ_cons,List.take_succ_cons,List.take_zero] at f0;have f1:RdW enc Tryz.prog W 3 (([x0,x1].drop 1).take (Tryz.prog.cellsOf 3)):=h2 1 _ rfl;rw[show Tryz.prog.cellsOf 3=1 by kernel_rfl] at f1;simp only[List.drop_zero,List.drop_succ_cons,List.take_succ_cons,List.take_zero] at f1;obtain⟨n0,e0,q0⟩:=ZCC Tryz.underlying3 f0.rd;simp only[List.cons.injEq,and_true] at e0;subst e0;obtain⟨n1,e1,q1⟩:=ZCC Tryz.underlying3 f1.rd;simp only[List.cons.injEq,and_true] at e1
 subst e1;exact⟨n0,n1,rfl⟩
theorem ZSN (h:RdW enc Tryz.prog W 77 cs):∃x:I3,cs.all (okv W.heap.size)=true/\cs.map nz=rowM x/\True:=by
 have cS:Tryz.prog.cellsOf 77=3:=by kernel_rfl
 have h1:=(ZDB Tryz.underlying77 h.rd).1;have h2:=ZCS Tryz.underlying77 h;rw[cS] at h1;obtain⟨x0,x1,x2,rfl⟩:∃x0 x1 x2,cs=[x0,x1,x2]:=by
  match cs,h1 with
  | [x0,x1,x2],_=>exact⟨x0,x1,x2,rfl⟩
 have f0:RdW enc Tryz.prog W 3 (([x0,x1,x2].drop 0).take (Tryz.prog.cellsOf 3)):=h2 0 _ rfl;rw[show Tryz.prog.cellsOf 3=1 by kernel_rfl] at f0;simp only[List.drop_zero,List.drop_succ_cons,List.take_succ_cons,List.take_zero] at f0;have f1:RdW enc Tryz.prog W 3 (([x0,x1,x2].drop 1).take (Tryz.prog.cellsOf 3)):=h2 1 _ rfl;rw[show Tryz.prog.cellsOf 3=1 by kernel_rfl] at f1;simp only[List.drop_zero,List.drop_succ_cons,List.take_succ_cons,List.take_zero] at f1;have f2:RdW enc Tryz.prog W 3 (([x0,x1,x2].drop 2).take (Tryz.prog.cellsOf 3)):=h2 2 _ rfl;rw[show Tryz.prog.cellsOf 3=1 by kernel_rfl] at f2
 simp only[List.drop_zero,List.drop_succ_cons,List.take_succ_cons,List.take_zero] at f2;obtain⟨n0,e0,q0⟩:=ZCC Tryz.underlying3 f0.rd;simp only[List.cons.injEq,and_true] at e0;subst e0;obtain⟨n1,e1,q1⟩:=ZCC Tryz.underlying3 f1.rd;simp only[List.cons.injEq,and_true] at e1;subst e1;obtain⟨n2,e2,q2⟩:=ZCC Tryz.underlying3 f2.rd;simp only[List.cons.injEq,and_true] at e2;subst e2;exact⟨(n0,n1,n2),rfl,rfl,trivial⟩
theorem ZSs (h:RdW enc Tryz.prog W 79 cs):∃x:Int×Int,cs.all (okv W.heap.size)=true/\cs.map nz=rowP x/\True:=by
 have cS:Tryz.prog.cellsOf 79=2:=by kernel_rfl
 have h1:=(ZDB Tryz.underlying79 h.rd).1;have h2:=ZCS Tryz.underlying79 h;rw[cS] at h1;obtain⟨x0,x1,rfl⟩:∃x0 x1,cs=[x0,x1]:=by
  match cs,h1 with
  | [x0,x1],_=>exact⟨x0,x1,rfl⟩
 have f0:RdW enc Tryz.prog W 3 (([x0,x1].drop 0).take (Tryz.prog.cellsOf 3)):=h2 0 _ rfl;rw[show Tryz.prog.cellsOf 3=1 by kernel_rfl] at f0;simp only[List.drop_zero,List.drop_succ_cons,List.take_succ_cons,List.take_zero] at f0;have f1:RdW enc Tryz.prog W 3 (([x0,x1].drop 1).take (Tryz.prog.cellsOf 3)):=h2 1 _ rfl;rw[show Tryz.prog.cellsOf 3=1 by kernel_rfl] at f1;simp only[List.drop_zero,List.drop_succ_cons,List.take_succ_cons,List.take_zero] at f1;obtain⟨n0,e0,q0⟩:=ZCC Tryz.underlying3 f0.rd;simp only[List.cons.injEq,and_true] at e0;subst e0;obtain⟨n1,e1,q1⟩:=ZCC Tryz.underlying3 f1.rd;simp only[List.cons.injEq,and_true] at e1
 subst e1;exact⟨(n0,n1),rfl,rfl,trivial⟩
theorem ZTV (h:RdW enc Tryz.prog W 81 cs):∃x:I3,cs.all (okv W.heap.size)=true/\cs.map nz=rowM x/\True:=by
 have cS:Tryz.prog.cellsOf 81=3:=by kernel_rfl
 have h1:=(ZDB Tryz.underlying81 h.rd).1;have h2:=ZCS Tryz.underlying81 h;rw[cS] at h1;obtain⟨x0,x1,x2,rfl⟩:∃x0 x1 x2,cs=[x0,x1,x2]:=by
  match cs,h1 with
  | [x0,x1,x2],_=>exact⟨x0,x1,x2,rfl⟩
 have f0:RdW enc Tryz.prog W 3 (([x0,x1,x2].drop 0).take (Tryz.prog.cellsOf 3)):=h2 0 _ rfl;rw[show Tryz.prog.cellsOf 3=1 by kernel_rfl] at f0;simp only[List.drop_zero,List.drop_succ_cons,List.take_succ_cons,List.take_zero] at f0;have f1:RdW enc Tryz.prog W 3 (([x0,x1,x2].drop 1).take (Tryz.prog.cellsOf 3)):=h2 1 _ rfl;rw[show Tryz.prog.cellsOf 3=1 by kernel_rfl] at f1;simp only[List.drop_zero,List.drop_succ_cons,List.take_succ_cons,List.take_zero] at f1;have f2:RdW enc Tryz.prog W 3 (([x0,x1,x2].drop 2).take (Tryz.prog.cellsOf 3)):=h2 2 _ rfl;rw[show Tryz.prog.cellsOf 3=1 by kernel_rfl] at f2
 simp only[List.drop_zero,List.drop_succ_cons,List.take_succ_cons,List.take_zero] at f2;obtain⟨n0,e0,q0⟩:=ZCC Tryz.underlying3 f0.rd;simp only[List.cons.injEq,and_true] at e0;subst e0;obtain⟨n1,e1,q1⟩:=ZCC Tryz.underlying3 f1.rd;simp only[List.cons.injEq,and_true] at e1;subst e1;obtain⟨n2,e2,q2⟩:=ZCC Tryz.underlying3 f2.rd;simp only[List.cons.injEq,and_true] at e2;subst e2;exact⟨(n0,n1,n2),rfl,rfl,trivial⟩
theorem ZTB (h:RdW enc Tryz.prog W 46 cs):∃x:Nt,cs.all (okv W.heap.size)=true/\cs.map nz=rowN x/\x.Fit:=by
 have cS:Tryz.prog.cellsOf 46=8:=by kernel_rfl
 have h1:=(ZDB Tryz.underlying46 h.rd).1;have h2:=ZCS Tryz.underlying46 h;rw[cS] at h1;obtain⟨x0,x1,x2,x3,x4,x5,x6,x7,rfl⟩:∃x0 x1 x2 x3 x4 x5 x6 x7,cs=[x0,x1,x2,x3,x4,x5,x6,x7]:=by
  match cs,h1 with
  | [x0,x1,x2,x3,x4,x5,x6,x7],_=>exact⟨x0,x1,x2,x3,x4,x5,x6,x7,rfl⟩
 have f0:RdW enc Tryz.prog W 9 (([x0,x1,x2,x3,x4,x5,x6,x7].drop 0).take (Tryz.prog.cellsOf 9)):=h2 0 _ rfl;rw[show Tryz.prog.cellsOf 9=1 by kernel_rfl] at f0;simp only[List.drop_zero,List.drop_succ_cons,List.take_succ_cons,List.take_zero] at f0;have f1:RdW enc Tryz.prog W 3 (([x0,x1,x2,x3,x4,x5,x6,x7].drop 1).take (Tryz.prog.cellsOf 3)):=h2 1 _ rfl;rw[show Tryz.prog.cellsOf 3=1 by kernel_rfl] at f1;simp only[List.drop_zero,List.drop_succ_cons,List.take_succ_cons,List.take_zero] at f1;have f2:RdW enc Tryz.prog W 3 (([x0,x1,x2,x3,x4,x5,x6,x7].drop 2).take (Tryz.prog.cellsOf 3)):=h2 2 _ rfl;rw[show Tryz.prog.cellsOf 3=1 by kernel_rfl] at f2
 simp only[List.drop_zero,List.drop_succ_cons,List.take_succ_cons,List.take_zero] at f2;have f3:RdW enc Tryz.prog W 3 (([x0,x1,x2,x3,x4,x5,x6,x7].drop 3).take (Tryz.prog.cellsOf 3)):=h2 3 _ rfl;rw[show Tryz.prog.cellsOf 3=1 by kernel_rfl] at f3;simp only[List.drop_zero,List.drop_succ_cons,List.take_succ_cons,List.take_zero] at f3;have f4:RdW enc Tryz.prog W 3 (([x0,x1,x2,x3,x4,x5,x6,x7].drop 4).take (Tryz.prog.cellsOf 3)):=h2 4 _ rfl;rw[show Tryz.prog.cellsOf 3=1 by kernel_rfl] at f4;simp only[List.drop_zero,List.drop_succ_cons,List.take_succ_cons,List.take_zero] at f4;have f5:RdW enc Tryz.prog W 3 (([x0,x1,x2,x3,x4,x5,x6,x7].drop 5).take (Tryz.prog.cellsOf 3)):=h2 5 _ rfl
 rw[show Tryz.prog.cellsOf 3=1 by kernel_rfl] at f5;simp only[List.drop_zero,List.drop_succ_cons,List.take_succ_cons,List.take_zero] at f5;have f6:RdW enc Tryz.prog W 23 (([x0,x1,x2,x3,x4,x5,x6,x7].drop 6).take (Tryz.prog.cellsOf 23)):=h2 6 _ rfl;rw[show Tryz.prog.cellsOf 23=2 by kernel_rfl] at f6;simp only[List.drop_zero,List.drop_succ_cons,List.take_succ_cons,List.take_zero] at f6;obtain⟨n0,e0,q0⟩:=ZIR Tryz.underlying9 f0;simp only[List.cons.injEq,and_true] at e0;subst e0;obtain⟨n1,e1,q1⟩:=ZCC Tryz.underlying3 f1.rd;simp only[List.cons.injEq,and_true] at e1;subst e1;obtain⟨n2,e2,q2⟩:=ZCC Tryz.underlying3 f2.rd
 simp only[List.cons.injEq,and_true] at e2;subst e2;obtain⟨n3,e3,q3⟩:=ZCC Tryz.underlying3 f3.rd;simp only[List.cons.injEq,and_true] at e3;subst e3;obtain⟨n4,e4,q4⟩:=ZCC Tryz.underlying3 f4.rd;simp only[List.cons.injEq,and_true] at e4;subst e4;obtain⟨n5,e5,q5⟩:=ZCC Tryz.underlying3 f5.rd;simp only[List.cons.injEq,and_true] at e5;subst e5;obtain⟨l6,m6,e6⟩:=ZKo f6;simp only[List.cons.injEq,and_true] at e6;obtain⟨rfl,rfl⟩:=e6;exact⟨⟨n0,n1,n2,n3,n4,n5,l6,m6⟩,rfl,rfl,by show n0.length<=_;omega⟩
theorem ZQJ (h:RdW enc Tryz.prog W 24 cs):∃v a l c,cs=[v]/\okv W.heap.size v=true/\nz v=.slice a l.length c/\TabA rowM 3 (ro W) a l/\Len l/\∀x∈l,True :=
 ZFA (R:=fun _ row x=>row=rowM x) (Fit:=fun x:I3=>True) Tryz.underlying24 (k:=3) (by kernel_rfl) (by decide) (fun row hr=>ZSN hr) h
theorem ZRu (h:RdW enc Tryz.prog W 25 cs):∃v a l c,cs=[v]/\okv W.heap.size v=true/\nz v=.slice a l.length c/\TabA rowP 2 (ro W) a l/\Len l/\∀x∈l,True :=
 ZFA (R:=fun _ row x=>row=rowP x) (Fit:=fun x:Int×Int=>True) Tryz.underlying25 (k:=2) (by kernel_rfl) (by decide) (fun row hr=>ZSs hr) h
theorem ZQf (h:RdW enc Tryz.prog W 26 cs):∃v a l c,cs=[v]/\okv W.heap.size v=true/\nz v=.slice a l.length c/\TabA rowM 3 (ro W) a l/\Len l/\∀x∈l,True :=
 ZFA (R:=fun _ row x=>row=rowM x) (Fit:=fun x:I3=>True) Tryz.underlying26 (k:=3) (by kernel_rfl) (by decide) (fun row hr=>ZTV hr) h
theorem ZMS (h:RdW enc Tryz.prog W 29 cs):∃v a l c,cs=[v]/\okv W.heap.size v=true/\nz v=.slice a l.length c/\TabA rowN 8 (ro W) a l/\Len l/\∀x∈l,x.Fit :=
 ZFA (R:=fun _ row x=>row=rowN x) (Fit:=fun x:Nt=>x.Fit) Tryz.underlying29 (k:=8) (by kernel_rfl) (by decide) (fun row hr=>ZTB hr) h
theorem ZSz (h:RdW enc Tryz.prog W 28 cs):∃(r:Rl)(am:Option Addr)(cm:Nat)(as':Option Addr)(csy:Nat)(al:Option Addr)(cl:Nat),cs.all (okv W.heap.size)=true/\cs.map nz=rowR r am cm as' csy al cl/\RlAt (ro W) am as' al r/\r.Fit:=by
 have cS:Tryz.prog.cellsOf 28=10:=by kernel_rfl
 have h1:=(ZDB Tryz.underlying28 h.rd).1;have h2:=ZCS Tryz.underlying28 h;rw[cS] at h1;obtain⟨x0,x1,x2,x3,x4,x5,x6,x7,x8,x9,rfl⟩:∃x0 x1 x2 x3 x4 x5 x6 x7 x8 x9,cs=[x0,x1,x2,x3,x4,x5,x6,x7,x8,x9]:=by
  match cs,h1 with
  | [x0,x1,x2,x3,x4,x5,x6,x7,x8,x9],_=>exact⟨x0,x1,x2,x3,x4,x5,x6,x7,x8,x9,rfl⟩
 have f0:RdW enc Tryz.prog W 9 (([x0,x1,x2,x3,x4,x5,x6,x7,x8,x9].drop 0).take (Tryz.prog.cellsOf 9)):=h2 0 _ rfl;rw[show Tryz.prog.cellsOf 9=1 by kernel_rfl] at f0;simp only[List.drop_zero,List.drop_succ_cons,List.take_succ_cons,List.take_zero] at f0;have f1:RdW enc Tryz.prog W 3 (([x0,x1,x2,x3,x4,x5,x6,x7,x8,x9].drop 1).take (Tryz.prog.cellsOf 3)):=h2 1 _ rfl;rw[show Tryz.prog.cellsOf 3=1 by kernel_rfl] at f1;simp only[List.drop_zero,List.drop_succ_cons,List.take_succ_cons,List.take_zero] at f1;have f2:RdW enc Tryz.prog W 3 (([x0,x1,x2,x3,x4,x5,x6,x7,x8,x9].drop 2).take (Tryz.prog.cellsOf 3)):=h2 2 _ rfl
 rw[show Tryz.prog.cellsOf 3=1 by kernel_rfl] at f2;simp only[List.drop_zero,List.drop_succ_cons,List.take_succ_cons,List.take_zero] at f2;have f3:RdW enc Tryz.prog W 3 (([x0,x1,x2,x3,x4,x5,x6,x7,x8,x9].drop 3).take (Tryz.prog.cellsOf 3)):=h2 3 _ rfl;rw[show Tryz.prog.cellsOf 3=1 by kernel_rfl] at f3;simp only[List.drop_zero,List.drop_succ_cons,List.take_succ_cons,List.take_zero] at f3;have f4:RdW enc Tryz.prog W 23 (([x0,x1,x2,x3,x4,x5,x6,x7,x8,x9].drop 4).take (Tryz.prog.cellsOf 23)):=h2 4 _ rfl;rw[show Tryz.prog.cellsOf 23=2 by kernel_rfl] at f4;simp only[List.drop_zero,List.drop_succ_cons,List.take_succ_cons,List.take_zero] at f4
 have f5:RdW enc Tryz.prog W 3 (([x0,x1,x2,x3,x4,x5,x6,x7,x8,x9].drop 6).take (Tryz.prog.cellsOf 3)):=h2 5 _ rfl;rw[show Tryz.prog.cellsOf 3=1 by kernel_rfl] at f5;simp only[List.drop_zero,List.drop_succ_cons,List.take_succ_cons,List.take_zero] at f5;have f6:RdW enc Tryz.prog W 24 (([x0,x1,x2,x3,x4,x5,x6,x7,x8,x9].drop 7).take (Tryz.prog.cellsOf 24)):=h2 6 _ rfl;rw[show Tryz.prog.cellsOf 24=1 by kernel_rfl] at f6;simp only[List.drop_zero,List.drop_succ_cons,List.take_succ_cons,List.take_zero] at f6;have f7:RdW enc Tryz.prog W 25 (([x0,x1,x2,x3,x4,x5,x6,x7,x8,x9].drop 8).take (Tryz.prog.cellsOf 25)):=h2 7 _ rfl
 rw[show Tryz.prog.cellsOf 25=1 by kernel_rfl] at f7;simp only[List.drop_zero,List.drop_succ_cons,List.take_succ_cons,List.take_zero] at f7;have f8:RdW enc Tryz.prog W 26 (([x0,x1,x2,x3,x4,x5,x6,x7,x8,x9].drop 9).take (Tryz.prog.cellsOf 26)):=h2 8 _ rfl;rw[show Tryz.prog.cellsOf 26=1 by kernel_rfl] at f8;simp only[List.drop_zero,List.drop_succ_cons,List.take_succ_cons,List.take_zero] at f8;obtain⟨n0,e0,q0⟩:=ZIR Tryz.underlying9 f0;simp only[List.cons.injEq,and_true] at e0;subst e0;obtain⟨n1,e1,q1⟩:=ZCC Tryz.underlying3 f1.rd;simp only[List.cons.injEq,and_true] at e1;subst e1;obtain⟨n2,e2,q2⟩:=ZCC Tryz.underlying3 f2.rd
 simp only[List.cons.injEq,and_true] at e2;subst e2;obtain⟨n3,e3,q3⟩:=ZCC Tryz.underlying3 f3.rd;simp only[List.cons.injEq,and_true] at e3;subst e3;obtain⟨l4,m4,e4⟩:=ZKo f4;simp only[List.cons.injEq,and_true] at e4;obtain⟨rfl,rfl⟩:=e4;obtain⟨n5,e5,q5⟩:=ZCC Tryz.underlying3 f5.rd;simp only[List.cons.injEq,and_true] at e5;subst e5;obtain⟨v6,a6,n6,c6,e6,ok6,nz6,hI6,hL6,hF6⟩:=ZQJ f6;simp only[List.cons.injEq,and_true] at e6;subst e6;obtain⟨v7,a7,n7,c7,e7,ok7,nz7,hI7,hL7,hF7⟩:=ZRu f7;simp only[List.cons.injEq,and_true] at e7;subst e7;obtain⟨v8,a8,n8,c8,e8,ok8,nz8,hI8,hL8,hF8⟩:=ZQf f8;simp only[List.cons.injEq,and_true] at e8
 subst e8;refine⟨⟨n0,n1,n2,n3,l4,m4,n5,n6,n7,n8⟩,a6,c6,a7,c7,a8,c8,?_,?_,⟨hI6,hI7,hI8⟩,⟨by show n0.length<=_;omega,hL6,hL7,hL8⟩⟩
 ·simp[ok6,ok7,ok8]
  try (repeat' constructor)
 ·simp only[List.map_cons,List.map_nil,nz6,nz7,nz8];rfl
theorem ZTW (h:RdW enc Tryz.prog W 31 cs):∃(t:Tk)(d:Ads),cs.all (okv W.heap.size)=true/\cs.map nz=ZD9 t d/\TkAt (ro W) t d/\t.Fit:=by
 have cS:Tryz.prog.cellsOf 31=13:=by kernel_rfl
 have h1:=(ZDB Tryz.underlying31 h.rd).1;have h2:=ZCS Tryz.underlying31 h;rw[cS] at h1;obtain⟨x0,x1,x2,x3,x4,x5,x6,x7,x8,x9,x10,x11,x12,rfl⟩:∃x0 x1 x2 x3 x4 x5 x6 x7 x8 x9 x10 x11 x12,cs=[x0,x1,x2,x3,x4,x5,x6,x7,x8,x9,x10,x11,x12]:=by
  match cs,h1 with
  | [x0,x1,x2,x3,x4,x5,x6,x7,x8,x9,x10,x11,x12],_=>exact⟨x0,x1,x2,x3,x4,x5,x6,x7,x8,x9,x10,x11,x12,rfl⟩
 have f0:RdW enc Tryz.prog W 28 (([x0,x1,x2,x3,x4,x5,x6,x7,x8,x9,x10,x11,x12].drop 0).take (Tryz.prog.cellsOf 28)):=h2 0 _ rfl;rw[show Tryz.prog.cellsOf 28=10 by kernel_rfl] at f0;simp only[List.drop_zero,List.drop_succ_cons,List.take_succ_cons,List.take_zero] at f0;have f1:RdW enc Tryz.prog W 23 (([x0,x1,x2,x3,x4,x5,x6,x7,x8,x9,x10,x11,x12].drop 10).take (Tryz.prog.cellsOf 23)):=h2 1 _ rfl;rw[show Tryz.prog.cellsOf 23=2 by kernel_rfl] at f1;simp only[List.drop_zero,List.drop_succ_cons,List.take_succ_cons,List.take_zero] at f1;have f2:RdW enc Tryz.prog W 29 (([x0,x1,x2,x3,x4,x5,x6,x7,x8,x9,x10,x11,x12].drop 12).take (Tryz.prog.cellsOf 29)):=h2 2 _ rfl
 rw[show Tryz.prog.cellsOf 29=1 by kernel_rfl] at f2;simp only[List.drop_zero,List.drop_succ_cons,List.take_succ_cons,List.take_zero] at f2;obtain⟨r0,am,cm,as',csy,al,cl,ok0,nz0,hR0,hF0⟩:=ZSz f0;obtain⟨l1,m1,e1⟩:=ZKo f1;simp only[List.cons.injEq,and_true] at e1;obtain⟨rfl,rfl⟩:=e1;obtain⟨v2,a2,n2,c2,e2,ok2,nz2,hI2,hL2,hF2⟩:=ZMS f2;simp only[List.cons.injEq,and_true] at e2;subst e2;refine⟨⟨r0,l1,m1,n2⟩,⟨am,cm,as',csy,al,cl,a2,c2⟩,?_,?_,⟨hR0,hI2⟩,⟨hF0,hL2,hF2⟩⟩
 ·simp only[List.all_cons,List.all_nil,Bool.and_true,Bool.and_eq_true] at ok0 ⊢
  simp[ok0,ok2]
  try (repeat' constructor)
 ·simp only[List.map_cons,List.map_nil,List.cons.injEq,and_true] at nz0 ⊢
  simp only[nz0,nz2]
  try (repeat' constructor)
theorem ZP8 (h:RdW enc Tryz.prog W 29 cs):∃v a l c,cs=[v]/\okv W.heap.size v=true/\nz v=.slice a l.length c/\SrcK rowN 8 (ro W) a l/\Len l/\∀x∈l,x.Fit:=by
 obtain⟨v,a,l,c,h1,h2,h3,h4,h5,h6⟩:=ZMS h;obtain⟨v',a',len',cap',g1,g2,g3⟩:=ZOA Tryz.underlying29 (by rw[show Tryz.prog.cellsOf 46=8 by kernel_rfl];decide) h.rd;rw[h1] at g1;simp only[List.cons.injEq,and_true] at g1;subst g1;rw[h3] at g2;simp only[Value.slice.injEq] at g2;obtain⟨rfl,rfl,rfl⟩:=g2;refine⟨v,a,l,c,h1,h2,h3,⟨h4,fun hn=>?_⟩,h5,h6⟩
 rcases g3 (by rw[hn];rfl) with g|g|⟨b,o,c,t',fz,g,hb,hle⟩
 ·exact .inl g
 ·exact .inr (.inl g)
 ·refine .inr (.inr ⟨b,o,none,g,?_⟩)
  have hlen:c.toList.length=c.size:=Array.length_toList
  have:=ZRw (W:=W) (o:=o) (n:=0) (row:=[]) hb (by
   unfold cut;have:Nat.ble (Nat.add o 0) c.toList.length=true:=Nat.ble_eq_true_of_le (by show o+0<=c.toList.length;omega);rw[this];simp) rfl
  simpa using this
theorem ZQp (h:RdW enc Tryz.prog W 32 cs):∃v a l cap,cs=[v]/\okv W.heap.size v=true/\nz v=.slice a l.length cap/\ZAV 1 CatR (ro W) a l/\(l≠[]->∃b o,a=some ⟨b,o,none⟩)/\l.length<=cap/\Len l/\∀x∈l,Len x/\∀y∈x,y.Fit:=by
 obtain⟨v,a,l,cap,h1,h2,h3,h4,h5,h6⟩:=ZFA (R:=CatR) (Fit:=fun x:List Nt=>Len x/\∀y∈x,y.Fit) Tryz.underlying32 (k:=1) (by kernel_rfl) (by decide) (fun row hr=>by
  obtain⟨v,a,l,c,h1,h2,h3,h4,h5,h6⟩:=ZP8 hr;subst h1;refine⟨l,by simp[h2],⟨a,c,by rw[List.map_cons,h3];rfl,h4⟩,h5,h6⟩) h
 obtain⟨v',a',len',cap',g1,-,g3,-,-,g6⟩:=ZJx Tryz.underlying32 (by rw[show Tryz.prog.cellsOf 29=1 by kernel_rfl];decide) h;obtain⟨v2,a2,len2,cap2,k1,k2,k3⟩:=ZPK Tryz.underlying32 h.rd;rw[h1] at g1 k1;simp only[List.cons.injEq,and_true] at g1 k1;subst g1;subst k1;rw[h3] at g3 k2;simp only[Value.slice.injEq] at g3 k2;obtain⟨rfl,rfl,rfl⟩:=g3;obtain⟨-,rfl,rfl⟩:=k2;refine⟨v,a,l,cap,h1,h2,h3,h4,fun hne=>?_,k3,h5,h6⟩;obtain⟨b,o,e,-⟩:=g6 0 (List.length_pos_iff.2 hne);exact⟨b,o,e⟩
end
end Go.Dw
