/- The degrees of a component, the program's: isEither, degreesOf, isAffine. guards: -/
import Derived.Test.YtekbhbcgoadciaaGreatPart8
import Derived.Test.YtekbhbcgoadciaaGreatPart6
set_option maxRecDepth 100000
set_option maxHeartbeats 6400000
namespace Go.Proofs.YtekbhbcgoadciaaGreat
open Go.RowKit
abbrev cA (mv:Int) (i m:Nat):AV:= .s (.agg [.val (I6 mv), .esl 1000 i 0 m])
abbrev dT (cs:List kX):Ch:=⟨false,83,2, .mix cs⟩
theorem cV (cs:List kX) (mv:Int) (i m n:Nat) (labs list:List Int) (hi:cs[i]? =some (.r 2 1 m (aL labs))) (hm:labs.length=m) (hn:list.length=n) (hm4:m≤1000000) (hn4:n≤1000000):
  FC Tryz.prog 117 [(1000,dT cs),(1001,dk list)] [cA mv i m,o1 (.sl 1001 0 n)] [] (vv (.bool (bQ labs list))) []:=by
 have hC:=Ci 1001 7 n list hn hn4
 have hE:=kH cs i m n 83 2 labs list hi hm hn hm4 hn4
 have hE2:=(kH cs i m n 83 2 labs list.reverse hi hm (by simpa using hn) hm4 hn4).nm [(1000,1000),(1001,7)] (by kernel_rfl)
 have hE2:FC Tryz.prog 119 [(1000,dT cs),(7,dk list.reverse)] [o1 (.esl 1000 i 0 m),o1 (.sl 7 0 n)] [] (vv (.bool (labs == list.reverse))) []:=hE2
 have hRv:∀ao c (w:World),Own w 0 2 ao n c (aL list)→Calls Tryz.prog 145 #[.slice ao n c] w fun e w'=>e= .returned (.tuple #[])∧Own w' 0 2 ao n c (aL list.reverse)∧w.grownBy w' (bk ao):=fun ao c w h=>xC ao n c list w 0 h
 have hrl:list.reverse.length=n:=by simpa using hn
 refine bj (nt:=20) Tryz.func117 rfl rfl (by simp) fun w0 ω0=> ?_
 (refine ak (ah (aa rfl (cF rfl rfl rfl rfl) (aa rfl (ai rfl rfl) (ar (an (ak (ah (aa rfl (aj rfl rfl) ?_))))))));apply aa rfl;(first | (apply au 144;exact bg hC ab rfl rfl ⟨rfl,ag⟩ ⟨⟨_,rfl, .inl rfl⟩,ag⟩ rfl rfl rfl) | (apply au 145;exact oQ (zs:=list) rfl ab rfl rfl hn hrl ae hRv) | (apply au 119;exact aw hE ab rfl rfl ⟨rfl,rfl,ag⟩ ⟨⟨_,rfl, .inl rfl⟩,⟨_,rfl, .inl rfl⟩,ag⟩ rfl rfl));refine aa rfl (ai rfl rfl) (ar (an (ak (ah (aa rfl (aj rfl rfl) ?_)))));apply aa rfl;(first | (apply au 144;exact bg hC ab rfl rfl ⟨rfl,ag⟩ ⟨⟨_,rfl, .inl rfl⟩,ag⟩ rfl rfl rfl) | (apply au 145;exact oQ (zs:=list) rfl ab rfl rfl hn hrl ae hRv) | (apply au 119;exact aw hE ab rfl rfl ⟨rfl,rfl,ag⟩ ⟨⟨_,rfl, .inl rfl⟩,⟨_,rfl, .inl rfl⟩,ag⟩ rfl rfl));refine ar (an (ak (ah ?_)));apply aa rfl;(exact aI (d:=1) rfl rfl rfl ab);apply aa rfl;exact aZ rfl ab rfl rfl rfl rfl;apply aa rfl;exact aj rfl rfl;apply aa rfl;(first | (apply au 144;exact bg hC ab rfl rfl ⟨rfl,ag⟩ ⟨⟨_,rfl, .inl rfl⟩,ag⟩ rfl rfl rfl) | (apply au 145;exact oQ (zs:=list) rfl ab rfl rfl hn hrl ae hRv) | (apply au 119;exact aw hE ab rfl rfl ⟨rfl,rfl,ag⟩ ⟨⟨_,rfl, .inl rfl⟩,⟨_,rfl, .inl rfl⟩,ag⟩ rfl rfl));apply aa rfl;exact aj rfl rfl)
 refine bS 14 rfl (fun h1=> ?_) (fun h1=> ?_)
 ·have hv:bQ labs list=true:=by unfold bQ;rw [h1];rfl
  rw [hv]
  (apply aD rfl rfl rfl rfl rfl;apply aD rfl rfl rfl rfl rfl;apply aD rfl rfl rfl rfl rfl;apply aD rfl rfl rfl rfl rfl;refine aa rfl (bp rfl rfl rfl) (aa rfl (ai rfl rfl) (ar (an (aS ?_)))))
  exact bu (.inl rfl) rfl (.tmp rfl) trivial trivial
 ·have hv:bQ labs list=(labs == list.reverse):=by unfold bQ;rw [h1];rfl
  rw [hv]
  (apply aH rfl rfl rfl;(exact aI (d:=1) rfl rfl rfl ab);apply aH rfl rfl rfl;exact aZ rfl ab rfl rfl rfl rfl;apply aH rfl rfl rfl;exact aj rfl rfl;apply aH rfl rfl rfl;(apply au 119;exact aw hE2 ab rfl rfl ⟨rfl,rfl,ag⟩ ⟨⟨_,rfl, .inl rfl⟩,⟨_,rfl, .inr rfl⟩,ag⟩ rfl rfl);refine aa rfl (bD rfl rfl rfl) (aa rfl (ai rfl rfl) (ar (an (aS ?_)))))
  exact bu (.inl rfl) rfl (.tmp rfl) trivial trivial
theorem Fz (cs:List kX) (mv:Int) (i m:Nat) (labs:List Int) (hi:cs[i]? =some (.r 2 1 m (aL labs))) (hm:labs.length=m) (hm4:m≤4) (h0:m=0):
  FC Tryz.prog 70 [(1000,dT cs)] [cA mv i m] [(15,bG [2])] (o1 (.sl 15 0 1)) []:=by
 have hSz:=gn 1000 i m
 refine bj (nt:=75) Tryz.func70 rfl rfl (by simp) fun w0 ω0=> ?_
 have hw1:IntKind.i64.wrap ((m:Int) + 1)=(m:Int) + 1:=IntWalk.i64_in _ ae
 (refine ak (ah (aa rfl (cF rfl rfl rfl rfl) (aa rfl (ai rfl rfl) (ar (an (ak (ah ?_)))))));apply aa rfl;(exact aI (d:=1) rfl rfl rfl ab);apply aa rfl;exact aZ rfl ab rfl rfl rfl rfl;apply aa rfl;(first | (apply au 62;exact aw hSz ab rfl rfl ⟨rfl,ag⟩ trivial rfl rfl) | exact aP rfl rfl rfl hw1);apply aa rfl;(first | (apply au 62;exact aw hSz ab rfl rfl ⟨rfl,ag⟩ trivial rfl rfl) | exact aP rfl rfl rfl hw1);refine aa rfl (ai rfl rfl) (ar (an (ak (aB (ak (ah (aa rfl (aj rfl rfl) (aa rfl (aG rfl rfl rfl rfl) (aa rfl (ai rfl rfl) (ar (an ?_))))))))))))
 refine ax rfl (fun _=> ?_) (fun e=> ?_)
 ·(refine ak (ah ?_);apply aa rfl;(exact bW (E:=2) rfl ab rfl);refine aa rfl (ai rfl rfl) (ar (an (aS (bt (aO ?_))))))
  exact bu (.inl rfl) rfl (.tmp rfl) ⟨rfl,ag⟩ trivial
 ·exfalso;simp at e;omega
theorem F1 (cs:List kX) (mv:Int) (i m:Nat) (labs:List Int) (hi:cs[i]? =some (.r 2 1 m (aL labs))) (hm:labs.length=m) (hm4:m≤4) (h0:m=1) (hp:0 < aC labs 0):
  FC Tryz.prog 70 [(1000,dT cs)] [cA mv i m] [(30,bG [2,aC labs 0])] (o1 (.sl 30 0 2)) []:=by
 have hSz:=gn 1000 i m
 refine bj (nt:=75) Tryz.func70 rfl rfl (by simp) fun w0 ω0=> ?_
 have hgl:(aL labs)[0]? =some (I6 (aC labs 0)):=bl ae
 have hw1:IntKind.i64.wrap ((m:Int) + 1)=(m:Int) + 1:=IntWalk.i64_in _ ae
 (refine ak (ah (aa rfl (cF rfl rfl rfl rfl) (aa rfl (ai rfl rfl) (ar (an (ak (ah ?_)))))));apply aa rfl;(exact aI (d:=1) rfl rfl rfl ab);apply aa rfl;exact aZ rfl ab rfl rfl rfl rfl;apply aa rfl;(first | (apply au 62;exact aw hSz ab rfl rfl ⟨rfl,ag⟩ trivial rfl rfl) | exact aP rfl rfl rfl hw1);apply aa rfl;(first | (apply au 62;exact aw hSz ab rfl rfl ⟨rfl,ag⟩ trivial rfl rfl) | exact aP rfl rfl rfl hw1);refine aa rfl (ai rfl rfl) (ar (an (ak (aB (ak (ah (aa rfl (aj rfl rfl) (aa rfl (aG rfl rfl rfl rfl) (aa rfl (ai rfl rfl) (ar (an ?_))))))))))))
 refine ax rfl (fun e=> ?_) (fun _=> ?_)
 ·exfalso;simp at e;omega
 (refine ak (ah (aa rfl (aj rfl rfl) (aa rfl (aG rfl rfl rfl rfl) (aa rfl (aj rfl rfl) ?_)))))
 refine bS 19 rfl (fun _=> ?_) (fun e=> ?_)
 ·(apply aH rfl rfl rfl;(exact aI (d:=1) rfl rfl rfl ab);apply aH rfl rfl rfl;exact aZ rfl ab rfl rfl rfl rfl;apply aH rfl rfl rfl;(first | exact dK (j:=0) rfl rfl rfl rfl rfl ab hi ae rfl ae (Nat.le_refl _) | exact cM rfl ab rfl rfl rfl hi hgl);apply aH rfl rfl rfl;(first | exact dK (j:=0) rfl rfl rfl rfl rfl ab hi ae rfl ae (Nat.le_refl _) | exact cM rfl ab rfl rfl rfl hi hgl);apply aH rfl rfl rfl;exact aG rfl rfl rfl rfl;refine aa rfl (bp rfl rfl rfl) (aa rfl (ai rfl rfl) (ar (an ?_))))
  refine ax rfl (fun _=> ?_) (fun e=> ?_)
  ·(refine ak (ah ?_);apply aa rfl;(exact aI (d:=1) rfl rfl rfl ab);apply aa rfl;exact aZ rfl ab rfl rfl rfl rfl;apply aa rfl;(first | exact dK (j:=0) rfl rfl rfl rfl rfl ab hi ae rfl ae (Nat.le_refl _) | exact cM rfl ab rfl rfl rfl hi hgl);apply aa rfl;(first | exact dK (j:=0) rfl rfl rfl rfl rfl ab hi ae rfl ae (Nat.le_refl _) | exact cM rfl ab rfl rfl rfl hi hgl);apply aa rfl;(exact cN (E:=2) rfl ab rfl rfl);refine aa rfl (ai rfl rfl) (ar (an (aS (bt (aO ?_))))))
   exact bu (.inl rfl) rfl (.tmp rfl) ⟨rfl,ag⟩ trivial
  ·exfalso;simp at e;omega
 ·exfalso;simp at e;omega
theorem Gz (cs:List kX) (mv:Int) (i m:Nat) (labs:List Int) (hi:cs[i]? =some (.r 2 1 m (aL labs))) (hm:labs.length=m) (hm4:m≤4) (h0:0 < m) (hq:¬(m=1∧0 < aC labs 0)) (e1:bQ labs [3,5]=true):
  FC Tryz.prog 70 [(1000,dT cs)] [cA mv i m] [(35,bG [2,6,10])] (o1 (.sl 35 0 3)) []:=by
 have hSz:=gn 1000 i m
 have hE1:=(cV cs mv i m 2 labs [3,5] hi hm rfl ae ae).nm [(1000,1000),(1001,33)] (by kernel_rfl)
 have hE1:FC Tryz.prog 117 [(1000,dT cs),(33,dk [3,5])] [cA mv i m,o1 (.sl 33 0 2)] [] (vv (.bool (bQ labs [3,5]))) []:=hE1
 rw [e1] at hE1
 refine bj (nt:=75) Tryz.func70 rfl rfl (by simp) fun w0 ω0=> ?_
 have hw1:IntKind.i64.wrap ((m:Int) + 1)=(m:Int) + 1:=IntWalk.i64_in _ ae
 (refine ak (ah (aa rfl (cF rfl rfl rfl rfl) (aa rfl (ai rfl rfl) (ar (an (ak (ah ?_)))))));apply aa rfl;(exact aI (d:=1) rfl rfl rfl ab);apply aa rfl;exact aZ rfl ab rfl rfl rfl rfl;apply aa rfl;(first | (apply au 62;exact aw hSz ab rfl rfl ⟨rfl,ag⟩ trivial rfl rfl) | exact aP rfl rfl rfl hw1);apply aa rfl;(first | (apply au 62;exact aw hSz ab rfl rfl ⟨rfl,ag⟩ trivial rfl rfl) | exact aP rfl rfl rfl hw1);refine aa rfl (ai rfl rfl) (ar (an (ak (aB (ak (ah (aa rfl (aj rfl rfl) (aa rfl (aG rfl rfl rfl rfl) (aa rfl (ai rfl rfl) (ar (an ?_))))))))))))
 refine ax rfl (fun e=> ?_) (fun _=> ?_)
 ·exfalso;simp at e;omega
 (repeat (first | refine ak ?_ | refine an ?_ | refine aE ?_ | refine aB ?_ | refine aM ?_ | refine a7 ?_ | refine aT ?_ | refine cQ rfl ?_ | refine aA ?_))
 refine cW (St.of [(1,o1 (.ptr 1 0)),(3,vv (I6 ((m:Int) + 1))),(16,vv (.bool false))] [(1000,dT cs),(1,⟨true,83,2, .flat [.val (I6 mv), .esl 1000 i 0 m]⟩)]) ?_ ?_
 ·refine ah ?_
  (refine aa rfl (aj rfl rfl) (aa rfl (aG rfl rfl rfl rfl) (aa rfl (aj rfl rfl) ?_)))
  refine bS 19 rfl (fun e1=> ?_) (fun e1=> ?_)
  ·have e1:m=1:=by simp at e1;omega
   have hg2:¬aC labs 0 > 0:=fun h=>hq ⟨e1,h⟩
   have hgl:(aL labs)[0]? =some (I6 (aC labs 0)):=bl ae
   have hbf:eB .i64 .gtr (aC labs 0) 0=some (.bool false):=by simp [eB];omega
   (apply aH rfl rfl rfl;(exact aI (d:=1) rfl rfl rfl ab);apply aH rfl rfl rfl;exact aZ rfl ab rfl rfl rfl rfl;apply aH rfl rfl rfl;(first | exact aG rfl rfl rfl hbf | exact dK (j:=0) rfl rfl rfl rfl rfl ab hi ae rfl ae (Nat.le_refl _) | exact cM rfl ab rfl rfl rfl hi hgl);apply aH rfl rfl rfl;(first | exact aG rfl rfl rfl hbf | exact dK (j:=0) rfl rfl rfl rfl rfl ab hi ae rfl ae (Nat.le_refl _) | exact cM rfl ab rfl rfl rfl hi hgl);apply aH rfl rfl rfl;(first | exact aG rfl rfl rfl hbf | exact dK (j:=0) rfl rfl rfl rfl rfl ab hi ae rfl ae (Nat.le_refl _) | exact cM rfl ab rfl rfl rfl hi hgl);refine aa rfl (bp rfl rfl rfl) (aa rfl (ai rfl rfl) (ar ?_)))
   exact aV (Wk.of ⟨rfl,rfl,rfl,ag⟩ ⟨rfl,rfl,ag⟩ trivial)
  ·(apply aD rfl rfl rfl rfl rfl;apply aD rfl rfl rfl rfl rfl;apply aD rfl rfl rfl rfl rfl;apply aD rfl rfl rfl rfl rfl;apply aD rfl rfl rfl rfl rfl;refine aa rfl (bD rfl rfl rfl) (aa rfl (ai rfl rfl) (ar ?_)))
   exact aV (Wk.of ⟨rfl,rfl,rfl,ag⟩ ⟨rfl,rfl,ag⟩ trivial)
 (refine an ?_)
 refine ax rfl (fun e=>by cases e) (fun _=> ?_)
 (refine ak (ah (aa rfl (aU rfl rfl rfl rfl rfl rfl ab) ?_));apply aa rfl;(exact cN (E:=2) rfl ab rfl rfl);apply aa rfl;(first | (apply au 117;exact aw hE1 ab rfl rfl ⟨⟨.inl rfl, .inl rfl,ag⟩,rfl,ag⟩ ⟨⟨_,rfl, .inl rfl⟩,⟨_,rfl, .inr rfl⟩,ag⟩ rfl rfl) | exact aX (E:=2) rfl ab rfl rfl rfl | exact aY (E:=2) rfl ab rfl rfl rfl rfl);refine aa rfl (ai rfl rfl) (ar (an ?_)))
 refine ax rfl (fun _=> ?_) (fun e=>by cases e)
 (refine ak (ah ?_);apply aa rfl;(first | exact aX (E:=2) rfl ab rfl rfl rfl | exact aY (E:=2) rfl ab rfl rfl rfl rfl);refine aa rfl (ai rfl rfl) (ar (an (aS (bt (aO ?_))))))
 exact bu (.inl rfl) rfl (.tmp rfl) ⟨rfl,ag⟩ trivial
theorem FH (cs:List kX) (mv:Int) (i m:Nat) (labs:List Int) (hi:cs[i]? =some (.r 2 1 m (aL labs))) (hm:labs.length=m) (hm4:m≤4) (h0:0 < m) (hq:¬(m=1∧0 < aC labs 0)) (e1:bQ labs [3,5]=false) (e2:bQ labs [3,3,5]=true):
  FC Tryz.prog 70 [(1000,dT cs)] [cA mv i m] [(40,bG [2,12,20,30])] (o1 (.sl 40 0 4)) []:=by
 have hSz:=gn 1000 i m
 have hE1:=(cV cs mv i m 2 labs [3,5] hi hm rfl ae ae).nm [(1000,1000),(1001,33)] (by kernel_rfl)
 have hE1:FC Tryz.prog 117 [(1000,dT cs),(33,dk [3,5])] [cA mv i m,o1 (.sl 33 0 2)] [] (vv (.bool (bQ labs [3,5]))) []:=hE1
 rw [e1] at hE1
 have hE2:=(cV cs mv i m 3 labs [3,3,5] hi hm rfl ae ae).nm [(1000,1000),(1001,38)] (by kernel_rfl)
 have hE2:FC Tryz.prog 117 [(1000,dT cs),(38,dk [3,3,5])] [cA mv i m,o1 (.sl 38 0 3)] [] (vv (.bool (bQ labs [3,3,5]))) []:=hE2
 rw [e2] at hE2
 refine bj (nt:=75) Tryz.func70 rfl rfl (by simp) fun w0 ω0=> ?_
 have hw1:IntKind.i64.wrap ((m:Int) + 1)=(m:Int) + 1:=IntWalk.i64_in _ ae
 (refine ak (ah (aa rfl (cF rfl rfl rfl rfl) (aa rfl (ai rfl rfl) (ar (an (ak (ah ?_)))))));apply aa rfl;(exact aI (d:=1) rfl rfl rfl ab);apply aa rfl;exact aZ rfl ab rfl rfl rfl rfl;apply aa rfl;(first | (apply au 62;exact aw hSz ab rfl rfl ⟨rfl,ag⟩ trivial rfl rfl) | exact aP rfl rfl rfl hw1);apply aa rfl;(first | (apply au 62;exact aw hSz ab rfl rfl ⟨rfl,ag⟩ trivial rfl rfl) | exact aP rfl rfl rfl hw1);refine aa rfl (ai rfl rfl) (ar (an (ak (aB (ak (ah (aa rfl (aj rfl rfl) (aa rfl (aG rfl rfl rfl rfl) (aa rfl (ai rfl rfl) (ar (an ?_))))))))))))
 refine ax rfl (fun e=> ?_) (fun _=> ?_)
 ·exfalso;simp at e;omega
 (repeat (first | refine ak ?_ | refine an ?_ | refine aE ?_ | refine aB ?_ | refine aM ?_ | refine a7 ?_ | refine aT ?_ | refine cQ rfl ?_ | refine aA ?_))
 refine cW (St.of [(1,o1 (.ptr 1 0)),(3,vv (I6 ((m:Int) + 1))),(16,vv (.bool false))] [(1000,dT cs),(1,⟨true,83,2, .flat [.val (I6 mv), .esl 1000 i 0 m]⟩)]) ?_ ?_
 ·refine ah ?_
  (refine aa rfl (aj rfl rfl) (aa rfl (aG rfl rfl rfl rfl) (aa rfl (aj rfl rfl) ?_)))
  refine bS 19 rfl (fun e1=> ?_) (fun e1=> ?_)
  ·have e1:m=1:=by simp at e1;omega
   have hg2:¬aC labs 0 > 0:=fun h=>hq ⟨e1,h⟩
   have hgl:(aL labs)[0]? =some (I6 (aC labs 0)):=bl ae
   have hbf:eB .i64 .gtr (aC labs 0) 0=some (.bool false):=by simp [eB];omega
   (apply aH rfl rfl rfl;(exact aI (d:=1) rfl rfl rfl ab);apply aH rfl rfl rfl;exact aZ rfl ab rfl rfl rfl rfl;apply aH rfl rfl rfl;(first | exact aG rfl rfl rfl hbf | exact dK (j:=0) rfl rfl rfl rfl rfl ab hi ae rfl ae (Nat.le_refl _) | exact cM rfl ab rfl rfl rfl hi hgl);apply aH rfl rfl rfl;(first | exact aG rfl rfl rfl hbf | exact dK (j:=0) rfl rfl rfl rfl rfl ab hi ae rfl ae (Nat.le_refl _) | exact cM rfl ab rfl rfl rfl hi hgl);apply aH rfl rfl rfl;(first | exact aG rfl rfl rfl hbf | exact dK (j:=0) rfl rfl rfl rfl rfl ab hi ae rfl ae (Nat.le_refl _) | exact cM rfl ab rfl rfl rfl hi hgl);refine aa rfl (bp rfl rfl rfl) (aa rfl (ai rfl rfl) (ar ?_)))
   exact aV (Wk.of ⟨rfl,rfl,rfl,ag⟩ ⟨rfl,rfl,ag⟩ trivial)
  ·(apply aD rfl rfl rfl rfl rfl;apply aD rfl rfl rfl rfl rfl;apply aD rfl rfl rfl rfl rfl;apply aD rfl rfl rfl rfl rfl;apply aD rfl rfl rfl rfl rfl;refine aa rfl (bD rfl rfl rfl) (aa rfl (ai rfl rfl) (ar ?_)))
   exact aV (Wk.of ⟨rfl,rfl,rfl,ag⟩ ⟨rfl,rfl,ag⟩ trivial)
 (refine an ?_)
 refine ax rfl (fun e=>by cases e) (fun _=> ?_)
 (refine ak (ah (aa rfl (aU rfl rfl rfl rfl rfl rfl ab) ?_));apply aa rfl;(exact cN (E:=2) rfl ab rfl rfl);apply aa rfl;(first | (apply au 117;exact aw hE1 ab rfl rfl ⟨⟨.inl rfl, .inl rfl,ag⟩,rfl,ag⟩ ⟨⟨_,rfl, .inl rfl⟩,⟨_,rfl, .inr rfl⟩,ag⟩ rfl rfl) | exact aX (E:=2) rfl ab rfl rfl rfl | exact aY (E:=2) rfl ab rfl rfl rfl rfl);refine aa rfl (ai rfl rfl) (ar (an ?_)))
 refine ax rfl (fun e=>by cases e) (fun _=> ?_)
 (refine ak (ah (aa rfl (aU rfl rfl rfl rfl rfl rfl ab) ?_));apply aa rfl;(first | (apply au 117;exact aw hE2 ab rfl rfl ⟨⟨.inl rfl, .inl rfl,ag⟩,rfl,ag⟩ ⟨⟨_,rfl, .inl rfl⟩,⟨_,rfl, .inr rfl⟩,ag⟩ rfl rfl) | exact aX (E:=2) rfl ab rfl rfl rfl | exact aY (E:=2) rfl ab rfl rfl rfl rfl);apply aa rfl;(first | (apply au 117;exact aw hE2 ab rfl rfl ⟨⟨.inl rfl, .inl rfl,ag⟩,rfl,ag⟩ ⟨⟨_,rfl, .inl rfl⟩,⟨_,rfl, .inr rfl⟩,ag⟩ rfl rfl) | exact aX (E:=2) rfl ab rfl rfl rfl | exact aY (E:=2) rfl ab rfl rfl rfl rfl);refine aa rfl (ai rfl rfl) (ar (an ?_)))
 refine ax rfl (fun _=> ?_) (fun e=>by cases e)
 (refine ak (ah ?_);apply aa rfl;(first | exact aX (E:=2) rfl ab rfl rfl rfl | exact aY (E:=2) rfl ab rfl rfl rfl rfl);refine aa rfl (ai rfl rfl) (ar (an (aS (bt (aO ?_))))))
 exact bu (.inl rfl) rfl (.tmp rfl) ⟨rfl,ag⟩ trivial
theorem Fv (cs:List kX) (mv:Int) (i m:Nat) (labs:List Int) (hi:cs[i]? =some (.r 2 1 m (aL labs))) (hm:labs.length=m) (hm4:m≤4) (h0:0 < m) (hq:¬(m=1∧0 < aC labs 0)) (e1:bQ labs [3,5]=false) (e2:bQ labs [3,3,5]=false) (e3:bQ labs [3,4,3]=true):
  FC Tryz.prog 70 [(1000,dT cs)] [cA mv i m] [(45,bG [2,6,8,12])] (o1 (.sl 45 0 4)) []:=by
 have hSz:=gn 1000 i m
 have hE1:=(cV cs mv i m 2 labs [3,5] hi hm rfl ae ae).nm [(1000,1000),(1001,33)] (by kernel_rfl)
 have hE1:FC Tryz.prog 117 [(1000,dT cs),(33,dk [3,5])] [cA mv i m,o1 (.sl 33 0 2)] [] (vv (.bool (bQ labs [3,5]))) []:=hE1
 rw [e1] at hE1
 have hE2:=(cV cs mv i m 3 labs [3,3,5] hi hm rfl ae ae).nm [(1000,1000),(1001,38)] (by kernel_rfl)
 have hE2:FC Tryz.prog 117 [(1000,dT cs),(38,dk [3,3,5])] [cA mv i m,o1 (.sl 38 0 3)] [] (vv (.bool (bQ labs [3,3,5]))) []:=hE2
 rw [e2] at hE2
 have hE3:=(cV cs mv i m 3 labs [3,4,3] hi hm rfl ae ae).nm [(1000,1000),(1001,43)] (by kernel_rfl)
 have hE3:FC Tryz.prog 117 [(1000,dT cs),(43,dk [3,4,3])] [cA mv i m,o1 (.sl 43 0 3)] [] (vv (.bool (bQ labs [3,4,3]))) []:=hE3
 rw [e3] at hE3
 refine bj (nt:=75) Tryz.func70 rfl rfl (by simp) fun w0 ω0=> ?_
 have hw1:IntKind.i64.wrap ((m:Int) + 1)=(m:Int) + 1:=IntWalk.i64_in _ ae
 (refine ak (ah (aa rfl (cF rfl rfl rfl rfl) (aa rfl (ai rfl rfl) (ar (an (ak (ah ?_)))))));apply aa rfl;(exact aI (d:=1) rfl rfl rfl ab);apply aa rfl;exact aZ rfl ab rfl rfl rfl rfl;apply aa rfl;(first | (apply au 62;exact aw hSz ab rfl rfl ⟨rfl,ag⟩ trivial rfl rfl) | exact aP rfl rfl rfl hw1);apply aa rfl;(first | (apply au 62;exact aw hSz ab rfl rfl ⟨rfl,ag⟩ trivial rfl rfl) | exact aP rfl rfl rfl hw1);refine aa rfl (ai rfl rfl) (ar (an (ak (aB (ak (ah (aa rfl (aj rfl rfl) (aa rfl (aG rfl rfl rfl rfl) (aa rfl (ai rfl rfl) (ar (an ?_))))))))))))
 refine ax rfl (fun e=> ?_) (fun _=> ?_)
 ·exfalso;simp at e;omega
 (repeat (first | refine ak ?_ | refine an ?_ | refine aE ?_ | refine aB ?_ | refine aM ?_ | refine a7 ?_ | refine aT ?_ | refine cQ rfl ?_ | refine aA ?_))
 refine cW (St.of [(1,o1 (.ptr 1 0)),(3,vv (I6 ((m:Int) + 1))),(16,vv (.bool false))] [(1000,dT cs),(1,⟨true,83,2, .flat [.val (I6 mv), .esl 1000 i 0 m]⟩)]) ?_ ?_
 ·refine ah ?_
  (refine aa rfl (aj rfl rfl) (aa rfl (aG rfl rfl rfl rfl) (aa rfl (aj rfl rfl) ?_)))
  refine bS 19 rfl (fun e1=> ?_) (fun e1=> ?_)
  ·have e1:m=1:=by simp at e1;omega
   have hg2:¬aC labs 0 > 0:=fun h=>hq ⟨e1,h⟩
   have hgl:(aL labs)[0]? =some (I6 (aC labs 0)):=bl ae
   have hbf:eB .i64 .gtr (aC labs 0) 0=some (.bool false):=by simp [eB];omega
   (apply aH rfl rfl rfl;(exact aI (d:=1) rfl rfl rfl ab);apply aH rfl rfl rfl;exact aZ rfl ab rfl rfl rfl rfl;apply aH rfl rfl rfl;(first | exact aG rfl rfl rfl hbf | exact dK (j:=0) rfl rfl rfl rfl rfl ab hi ae rfl ae (Nat.le_refl _) | exact cM rfl ab rfl rfl rfl hi hgl);apply aH rfl rfl rfl;(first | exact aG rfl rfl rfl hbf | exact dK (j:=0) rfl rfl rfl rfl rfl ab hi ae rfl ae (Nat.le_refl _) | exact cM rfl ab rfl rfl rfl hi hgl);apply aH rfl rfl rfl;(first | exact aG rfl rfl rfl hbf | exact dK (j:=0) rfl rfl rfl rfl rfl ab hi ae rfl ae (Nat.le_refl _) | exact cM rfl ab rfl rfl rfl hi hgl);refine aa rfl (bp rfl rfl rfl) (aa rfl (ai rfl rfl) (ar ?_)))
   exact aV (Wk.of ⟨rfl,rfl,rfl,ag⟩ ⟨rfl,rfl,ag⟩ trivial)
  ·(apply aD rfl rfl rfl rfl rfl;apply aD rfl rfl rfl rfl rfl;apply aD rfl rfl rfl rfl rfl;apply aD rfl rfl rfl rfl rfl;apply aD rfl rfl rfl rfl rfl;refine aa rfl (bD rfl rfl rfl) (aa rfl (ai rfl rfl) (ar ?_)))
   exact aV (Wk.of ⟨rfl,rfl,rfl,ag⟩ ⟨rfl,rfl,ag⟩ trivial)
 (refine an ?_)
 refine ax rfl (fun e=>by cases e) (fun _=> ?_)
 (refine ak (ah (aa rfl (aU rfl rfl rfl rfl rfl rfl ab) ?_));apply aa rfl;(exact cN (E:=2) rfl ab rfl rfl);apply aa rfl;(first | (apply au 117;exact aw hE1 ab rfl rfl ⟨⟨.inl rfl, .inl rfl,ag⟩,rfl,ag⟩ ⟨⟨_,rfl, .inl rfl⟩,⟨_,rfl, .inr rfl⟩,ag⟩ rfl rfl) | exact aX (E:=2) rfl ab rfl rfl rfl | exact aY (E:=2) rfl ab rfl rfl rfl rfl);refine aa rfl (ai rfl rfl) (ar (an ?_)))
 refine ax rfl (fun e=>by cases e) (fun _=> ?_)
 (refine ak (ah (aa rfl (aU rfl rfl rfl rfl rfl rfl ab) ?_));apply aa rfl;(first | (apply au 117;exact aw hE2 ab rfl rfl ⟨⟨.inl rfl, .inl rfl,ag⟩,rfl,ag⟩ ⟨⟨_,rfl, .inl rfl⟩,⟨_,rfl, .inr rfl⟩,ag⟩ rfl rfl) | exact aX (E:=2) rfl ab rfl rfl rfl | exact aY (E:=2) rfl ab rfl rfl rfl rfl);apply aa rfl;(first | (apply au 117;exact aw hE2 ab rfl rfl ⟨⟨.inl rfl, .inl rfl,ag⟩,rfl,ag⟩ ⟨⟨_,rfl, .inl rfl⟩,⟨_,rfl, .inr rfl⟩,ag⟩ rfl rfl) | exact aX (E:=2) rfl ab rfl rfl rfl | exact aY (E:=2) rfl ab rfl rfl rfl rfl);refine aa rfl (ai rfl rfl) (ar (an ?_)))
 refine ax rfl (fun e=>by cases e) (fun _=> ?_)
 (refine ak (ah (aa rfl (aU rfl rfl rfl rfl rfl rfl ab) ?_));apply aa rfl;(first | (apply au 117;exact aw hE3 ab rfl rfl ⟨⟨.inl rfl, .inl rfl,ag⟩,rfl,ag⟩ ⟨⟨_,rfl, .inl rfl⟩,⟨_,rfl, .inr rfl⟩,ag⟩ rfl rfl) | exact aX (E:=2) rfl ab rfl rfl rfl | exact aY (E:=2) rfl ab rfl rfl rfl rfl);apply aa rfl;(first | (apply au 117;exact aw hE3 ab rfl rfl ⟨⟨.inl rfl, .inl rfl,ag⟩,rfl,ag⟩ ⟨⟨_,rfl, .inl rfl⟩,⟨_,rfl, .inr rfl⟩,ag⟩ rfl rfl) | exact aX (E:=2) rfl ab rfl rfl rfl | exact aY (E:=2) rfl ab rfl rfl rfl rfl);refine aa rfl (ai rfl rfl) (ar (an ?_)))
 refine ax rfl (fun _=> ?_) (fun e=>by cases e)
 (refine ak (ah ?_);apply aa rfl;(first | exact aX (E:=2) rfl ab rfl rfl rfl | exact aY (E:=2) rfl ab rfl rfl rfl rfl);refine aa rfl (ai rfl rfl) (ar (an (aS (bt (aO ?_))))))
 exact bu (.inl rfl) rfl (.tmp rfl) ⟨rfl,ag⟩ trivial
theorem Gk (cs:List kX) (mv:Int) (i m:Nat) (labs:List Int) (hi:cs[i]? =some (.r 2 1 m (aL labs))) (hm:labs.length=m) (hm4:m≤4) (h0:0 < m) (hq:¬(m=1∧0 < aC labs 0)) (e1:bQ labs [3,5]=false) (e2:bQ labs [3,3,5]=false) (e3:bQ labs [3,4,3]=false) (e4:labs=List.replicate m 3):
  FC Tryz.prog 70 [(1000,dT cs)] [cA mv i m] [(2100,bG (gm (m + 1) 1))] (o1 (.sl 2100 0 (m + 1))) []:=by
 have hSz:=gn 1000 i m
 have hE1:=(cV cs mv i m 2 labs [3,5] hi hm rfl ae ae).nm [(1000,1000),(1001,33)] (by kernel_rfl)
 have hE1:FC Tryz.prog 117 [(1000,dT cs),(33,dk [3,5])] [cA mv i m,o1 (.sl 33 0 2)] [] (vv (.bool (bQ labs [3,5]))) []:=hE1
 rw [e1] at hE1
 have hE2:=(cV cs mv i m 3 labs [3,3,5] hi hm rfl ae ae).nm [(1000,1000),(1001,38)] (by kernel_rfl)
 have hE2:FC Tryz.prog 117 [(1000,dT cs),(38,dk [3,3,5])] [cA mv i m,o1 (.sl 38 0 3)] [] (vv (.bool (bQ labs [3,3,5]))) []:=hE2
 rw [e2] at hE2
 have hE3:=(cV cs mv i m 3 labs [3,4,3] hi hm rfl ae ae).nm [(1000,1000),(1001,43)] (by kernel_rfl)
 have hE3:FC Tryz.prog 117 [(1000,dT cs),(43,dk [3,4,3])] [cA mv i m,o1 (.sl 43 0 3)] [] (vv (.bool (bQ labs [3,4,3]))) []:=hE3
 rw [e3] at hE3
 refine bj (nt:=75) Tryz.func70 rfl rfl (by simp) fun w0 ω0=> ?_
 have hR:FC Tryz.prog 118 [(46,⟨false,2,1, .bR (aL [3])⟩)] [o1 (.sl 46 0 1),vv (I6 m)] [(50,⟨true,2,1, .bR (aL (List.replicate m 3))⟩)] (o1 (.sl 50 0 m)) []:=iz 46 50 m 3 ae h0
 have hrl:(List.replicate m (3:Int)).length=m:=by simp
 have hQ:=(kH cs i m m 83 2 labs (List.replicate m 3) hi hm hrl ae ae).nm [(1000,1000),(1001,50)] (by kernel_rfl)
 have hQ:FC Tryz.prog 119 [(1000,dT cs),(50,dk (List.replicate m 3))] [o1 (.esl 1000 i 0 m),o1 (.sl 50 0 m)] [] (vv (.bool (labs == List.replicate m 3))) []:=hQ
 have hF:=(cV cs mv i m m labs ((List.replicate m 3).set 0 4) hi hm (by simp) ae ae).nm [(1000,1000),(1001,50)] (by kernel_rfl)
 have hF:FC Tryz.prog 117 [(1000,dT cs),(50,dk ((List.replicate m 3).set 0 4))] [cA mv i m,o1 (.sl 50 0 m)] [] (vv (.bool (bQ labs ((List.replicate m 3).set 0 4)))) []:=hF
 have e4':(labs == List.replicate m 3)=true:=by simpa using e4
 rw [e4'] at hQ
 have hw1:IntKind.i64.wrap ((m:Int) + 1)=(m:Int) + 1:=IntWalk.i64_in _ ae
 (refine ak (ah (aa rfl (cF rfl rfl rfl rfl) (aa rfl (ai rfl rfl) (ar (an (ak (ah ?_)))))));apply aa rfl;(exact aI (d:=1) rfl rfl rfl ab);apply aa rfl;exact aZ rfl ab rfl rfl rfl rfl;apply aa rfl;(first | (apply au 62;exact aw hSz ab rfl rfl ⟨rfl,ag⟩ trivial rfl rfl) | exact aP rfl rfl rfl hw1);apply aa rfl;(first | (apply au 62;exact aw hSz ab rfl rfl ⟨rfl,ag⟩ trivial rfl rfl) | exact aP rfl rfl rfl hw1);refine aa rfl (ai rfl rfl) (ar (an (ak (aB (ak (ah (aa rfl (aj rfl rfl) (aa rfl (aG rfl rfl rfl rfl) (aa rfl (ai rfl rfl) (ar (an ?_))))))))))))
 refine ax rfl (fun e=> ?_) (fun _=> ?_)
 ·exfalso;simp at e;omega
 (repeat (first | refine ak ?_ | refine an ?_ | refine aE ?_ | refine aB ?_ | refine aM ?_ | refine a7 ?_ | refine aT ?_ | refine cQ rfl ?_ | refine aA ?_))
 refine cW (St.of [(1,o1 (.ptr 1 0)),(3,vv (I6 ((m:Int) + 1))),(16,vv (.bool false))] [(1000,dT cs),(1,⟨true,83,2, .flat [.val (I6 mv), .esl 1000 i 0 m]⟩)]) ?_ ?_
 ·refine ah ?_
  (refine aa rfl (aj rfl rfl) (aa rfl (aG rfl rfl rfl rfl) (aa rfl (aj rfl rfl) ?_)))
  refine bS 19 rfl (fun e1=> ?_) (fun e1=> ?_)
  ·have e1:m=1:=by simp at e1;omega
   have hg2:¬aC labs 0 > 0:=fun h=>hq ⟨e1,h⟩
   have hgl:(aL labs)[0]? =some (I6 (aC labs 0)):=bl ae
   have hbf:eB .i64 .gtr (aC labs 0) 0=some (.bool false):=by simp [eB];omega
   (apply aH rfl rfl rfl;(exact aI (d:=1) rfl rfl rfl ab);apply aH rfl rfl rfl;exact aZ rfl ab rfl rfl rfl rfl;apply aH rfl rfl rfl;(first | exact aG rfl rfl rfl hbf | exact dK (j:=0) rfl rfl rfl rfl rfl ab hi ae rfl ae (Nat.le_refl _) | exact cM rfl ab rfl rfl rfl hi hgl);apply aH rfl rfl rfl;(first | exact aG rfl rfl rfl hbf | exact dK (j:=0) rfl rfl rfl rfl rfl ab hi ae rfl ae (Nat.le_refl _) | exact cM rfl ab rfl rfl rfl hi hgl);apply aH rfl rfl rfl;(first | exact aG rfl rfl rfl hbf | exact dK (j:=0) rfl rfl rfl rfl rfl ab hi ae rfl ae (Nat.le_refl _) | exact cM rfl ab rfl rfl rfl hi hgl);refine aa rfl (bp rfl rfl rfl) (aa rfl (ai rfl rfl) (ar ?_)))
   exact aV (Wk.of ⟨rfl,rfl,rfl,ag⟩ ⟨rfl,rfl,ag⟩ trivial)
  ·(apply aD rfl rfl rfl rfl rfl;apply aD rfl rfl rfl rfl rfl;apply aD rfl rfl rfl rfl rfl;apply aD rfl rfl rfl rfl rfl;apply aD rfl rfl rfl rfl rfl;refine aa rfl (bD rfl rfl rfl) (aa rfl (ai rfl rfl) (ar ?_)))
   exact aV (Wk.of ⟨rfl,rfl,rfl,ag⟩ ⟨rfl,rfl,ag⟩ trivial)
 (refine an ?_)
 refine ax rfl (fun e=>by cases e) (fun _=> ?_)
 (refine ak (ah (aa rfl (aU rfl rfl rfl rfl rfl rfl ab) ?_));apply aa rfl;(exact cN (E:=2) rfl ab rfl rfl);apply aa rfl;(first | (apply au 117;exact aw hE1 ab rfl rfl ⟨⟨.inl rfl, .inl rfl,ag⟩,rfl,ag⟩ ⟨⟨_,rfl, .inl rfl⟩,⟨_,rfl, .inr rfl⟩,ag⟩ rfl rfl) | exact aX (E:=2) rfl ab rfl rfl rfl | exact aY (E:=2) rfl ab rfl rfl rfl rfl);refine aa rfl (ai rfl rfl) (ar (an ?_)))
 refine ax rfl (fun e=>by cases e) (fun _=> ?_)
 (refine ak (ah (aa rfl (aU rfl rfl rfl rfl rfl rfl ab) ?_));apply aa rfl;(first | (apply au 117;exact aw hE2 ab rfl rfl ⟨⟨.inl rfl, .inl rfl,ag⟩,rfl,ag⟩ ⟨⟨_,rfl, .inl rfl⟩,⟨_,rfl, .inr rfl⟩,ag⟩ rfl rfl) | exact aX (E:=2) rfl ab rfl rfl rfl | exact aY (E:=2) rfl ab rfl rfl rfl rfl);apply aa rfl;(first | (apply au 117;exact aw hE2 ab rfl rfl ⟨⟨.inl rfl, .inl rfl,ag⟩,rfl,ag⟩ ⟨⟨_,rfl, .inl rfl⟩,⟨_,rfl, .inr rfl⟩,ag⟩ rfl rfl) | exact aX (E:=2) rfl ab rfl rfl rfl | exact aY (E:=2) rfl ab rfl rfl rfl rfl);refine aa rfl (ai rfl rfl) (ar (an ?_)))
 refine ax rfl (fun e=>by cases e) (fun _=> ?_)
 (refine ak (ah (aa rfl (aU rfl rfl rfl rfl rfl rfl ab) ?_));apply aa rfl;(first | (apply au 117;exact aw hE3 ab rfl rfl ⟨⟨.inl rfl, .inl rfl,ag⟩,rfl,ag⟩ ⟨⟨_,rfl, .inl rfl⟩,⟨_,rfl, .inr rfl⟩,ag⟩ rfl rfl) | exact aX (E:=2) rfl ab rfl rfl rfl | exact aY (E:=2) rfl ab rfl rfl rfl rfl);apply aa rfl;(first | (apply au 117;exact aw hE3 ab rfl rfl ⟨⟨.inl rfl, .inl rfl,ag⟩,rfl,ag⟩ ⟨⟨_,rfl, .inl rfl⟩,⟨_,rfl, .inr rfl⟩,ag⟩ rfl rfl) | exact aX (E:=2) rfl ab rfl rfl rfl | exact aY (E:=2) rfl ab rfl rfl rfl rfl);refine aa rfl (ai rfl rfl) (ar (an ?_)))
 refine ax rfl (fun e=>by cases e) (fun _=> ?_)
 (refine aE (aM (an (ak (ah ?_))));apply aa rfl;(exact bW (E:=2) rfl ab rfl);apply aa rfl;(exact aI (d:=1) rfl rfl rfl ab);apply aa rfl;exact aZ rfl ab rfl rfl rfl rfl;apply aa rfl;exact bw rfl rfl rfl ab;apply aa rfl;(first | (apply au 118;exact bg hR ab rfl rfl ⟨rfl,rfl,ag⟩ ⟨⟨_,rfl, .inr rfl⟩,ag⟩ rfl rfl rfl) | (apply au 119;exact aw hQ ab rfl rfl ⟨rfl,rfl,ag⟩ ⟨⟨_,rfl, .inl rfl⟩,⟨_,rfl, .inr rfl⟩,ag⟩ rfl rfl));refine aa rfl (ai rfl rfl) (ar (an (ak (ah (aa rfl (ai rfl rfl) (ar (an (ak (ak (ah ?_))))))))));apply aa rfl;(exact aI (d:=1) rfl rfl rfl ab);apply aa rfl;exact aZ rfl ab rfl rfl rfl rfl;apply aa rfl;exact aj rfl rfl;apply aa rfl;(first | (apply au 118;exact bg hR ab rfl rfl ⟨rfl,rfl,ag⟩ ⟨⟨_,rfl, .inr rfl⟩,ag⟩ rfl rfl rfl) | (apply au 119;exact aw hQ ab rfl rfl ⟨rfl,rfl,ag⟩ ⟨⟨_,rfl, .inl rfl⟩,⟨_,rfl, .inr rfl⟩,ag⟩ rfl rfl));refine ar (an ?_))
 refine ax rfl (fun _=> ?_) (fun e=>by cases e)
 (refine ah (aa rfl (ai rfl rfl) (ar (an (ak (ak (ah (aa rfl (aj rfl rfl) (aa rfl (aG rfl rfl rfl rfl) (ar (an ?_)))))))))))
 refine ax rfl (fun e=>by cases e) (fun _=> ?_)
 (refine aE (an (ak (ah (aa rfl (ai rfl rfl) (ar (an (ak (ak (ah (aa rfl (aj rfl rfl) (aa rfl (aj rfl rfl) ?_)))))))))));refine ar (an (aB ?_)))
 have hlp:∀k:Nat,k≤5→IntKind.i64.wrap ((1:Int) * (k:Int))=(1:Int) * k∧IntKind.i64.wrap (2 + (1:Int) * (k:Int))=2 + (1:Int) * k:=fun k hk=>⟨IntWalk.i64_in _ ae,IntWalk.i64_in _ ae⟩
 refine bz (fun k:Nat=>St.of [(5,vv (I6 1)),(6,o1 (.sl 2100 0 k)),(62,vv (I6 ((m:Int) + 1))),(63,vv (I6 k))] [(2100,bG (gm k 1))]) (fun k=>k≤m + 1) (fun k=>m + 1 - k) 0 (Nat.zero_le _) (Wk.trans (nq (t:=6) (n:=2100) (k:=1) (E:=2) (d:= .bR (aL (gm 0 1))) rfl rfl) (Wk.of ⟨rfl,rfl,rfl,rfl,ag⟩ ⟨rfl,ag⟩ trivial)) ?_
 rintro k hk
 have hlk:=hlp k ae
 (refine ak (ah (aa rfl (aG rfl rfl rfl rfl) (ar (an (ak ?_))))))
 refine bK rfl (fun hlt=> ?_) (fun hlt=> ?_)
 ·(refine aE (an (ak (aB (ak (ah (aa rfl (aj rfl rfl) (aa rfl (ai rfl rfl) (ar (an (ah (aa rfl (aj rfl rfl) ?_)))))))))));refine aa rfl (aj rfl rfl) (aa rfl (aj rfl rfl) ?_);apply aa rfl;(first | exact dV rfl rfl rfl hlk.1 | exact aP rfl rfl rfl hlk.2 | exact bE rfl ab rfl rfl rfl (dt _ _) rfl rfl ae);apply aa rfl;(first | exact dV rfl rfl rfl hlk.1 | exact aP rfl rfl rfl hlk.2 | exact bE rfl ab rfl rfl rfl (dt _ _) rfl rfl ae);apply aa rfl;(exact bW (E:=2) rfl ab rfl);apply aa rfl;(first | exact dV rfl rfl rfl hlk.1 | exact aP rfl rfl rfl hlk.2 | exact bE rfl ab rfl rfl rfl (dt _ _) rfl rfl ae);refine aa rfl (ai rfl rfl) (ar (aM (an (ah ?_))));apply aa rfl;exact aP rfl rfl rfl bA;refine aa rfl (aj rfl rfl) (ar ?_))
  exact aW (k + 1) ae ae (Wk.of ⟨rfl,rfl,rfl,rfl,ag⟩ ⟨by rw [jt];rfl,ag⟩ trivial)
 ·obtain rfl:k=m + 1:=by omega
  (refine a7 (aA (aA (aT (an (ak (ah (aa rfl (aj rfl rfl) (aa rfl (ai rfl rfl) (ar (an (aS ?_))))))))))))
  exact bu (.inl rfl) rfl (.tmp rfl) ⟨rfl,ag⟩ trivial
theorem Gu (cs:List kX) (mv:Int) (i m:Nat) (labs:List Int) (hi:cs[i]? =some (.r 2 1 m (aL labs))) (hm:labs.length=m) (hm4:m≤4) (h0:0 < m) (hq:¬(m=1∧0 < aC labs 0)) (e1:bQ labs [3,5]=false) (e2:bQ labs [3,3,5]=false) (e3:bQ labs [3,4,3]=false) (e4:labs≠List.replicate m 3) (e5:bQ labs ((List.replicate m (3:Int)).set 0 4)=true):
  FC Tryz.prog 70 [(1000,dT cs)] [cA mv i m] [(2100,bG (gm (m + 1) 2))] (o1 (.sl 2100 0 (m + 1))) []:=by
 have hSz:=gn 1000 i m
 have hE1:=(cV cs mv i m 2 labs [3,5] hi hm rfl ae ae).nm [(1000,1000),(1001,33)] (by kernel_rfl)
 have hE1:FC Tryz.prog 117 [(1000,dT cs),(33,dk [3,5])] [cA mv i m,o1 (.sl 33 0 2)] [] (vv (.bool (bQ labs [3,5]))) []:=hE1
 rw [e1] at hE1
 have hE2:=(cV cs mv i m 3 labs [3,3,5] hi hm rfl ae ae).nm [(1000,1000),(1001,38)] (by kernel_rfl)
 have hE2:FC Tryz.prog 117 [(1000,dT cs),(38,dk [3,3,5])] [cA mv i m,o1 (.sl 38 0 3)] [] (vv (.bool (bQ labs [3,3,5]))) []:=hE2
 rw [e2] at hE2
 have hE3:=(cV cs mv i m 3 labs [3,4,3] hi hm rfl ae ae).nm [(1000,1000),(1001,43)] (by kernel_rfl)
 have hE3:FC Tryz.prog 117 [(1000,dT cs),(43,dk [3,4,3])] [cA mv i m,o1 (.sl 43 0 3)] [] (vv (.bool (bQ labs [3,4,3]))) []:=hE3
 rw [e3] at hE3
 refine bj (nt:=75) Tryz.func70 rfl rfl (by simp) fun w0 ω0=> ?_
 have hR:FC Tryz.prog 118 [(46,⟨false,2,1, .bR (aL [3])⟩)] [o1 (.sl 46 0 1),vv (I6 m)] [(50,⟨true,2,1, .bR (aL (List.replicate m 3))⟩)] (o1 (.sl 50 0 m)) []:=iz 46 50 m 3 ae h0
 have hrl:(List.replicate m (3:Int)).length=m:=by simp
 have hQ:=(kH cs i m m 83 2 labs (List.replicate m 3) hi hm hrl ae ae).nm [(1000,1000),(1001,50)] (by kernel_rfl)
 have hQ:FC Tryz.prog 119 [(1000,dT cs),(50,dk (List.replicate m 3))] [o1 (.esl 1000 i 0 m),o1 (.sl 50 0 m)] [] (vv (.bool (labs == List.replicate m 3))) []:=hQ
 have hF:=(cV cs mv i m m labs ((List.replicate m 3).set 0 4) hi hm (by simp) ae ae).nm [(1000,1000),(1001,50)] (by kernel_rfl)
 have hF:FC Tryz.prog 117 [(1000,dT cs),(50,dk ((List.replicate m 3).set 0 4))] [cA mv i m,o1 (.sl 50 0 m)] [] (vv (.bool (bQ labs ((List.replicate m 3).set 0 4)))) []:=hF
 have e4':(labs == List.replicate m 3)=false:=by simpa using e4
 rw [e4'] at hQ
 rw [e5] at hF
 have hw1:IntKind.i64.wrap ((m:Int) + 1)=(m:Int) + 1:=IntWalk.i64_in _ ae
 (refine ak (ah (aa rfl (cF rfl rfl rfl rfl) (aa rfl (ai rfl rfl) (ar (an (ak (ah ?_)))))));apply aa rfl;(exact aI (d:=1) rfl rfl rfl ab);apply aa rfl;exact aZ rfl ab rfl rfl rfl rfl;apply aa rfl;(first | (apply au 62;exact aw hSz ab rfl rfl ⟨rfl,ag⟩ trivial rfl rfl) | exact aP rfl rfl rfl hw1);apply aa rfl;(first | (apply au 62;exact aw hSz ab rfl rfl ⟨rfl,ag⟩ trivial rfl rfl) | exact aP rfl rfl rfl hw1);refine aa rfl (ai rfl rfl) (ar (an (ak (aB (ak (ah (aa rfl (aj rfl rfl) (aa rfl (aG rfl rfl rfl rfl) (aa rfl (ai rfl rfl) (ar (an ?_))))))))))))
 refine ax rfl (fun e=> ?_) (fun _=> ?_)
 ·exfalso;simp at e;omega
 (repeat (first | refine ak ?_ | refine an ?_ | refine aE ?_ | refine aB ?_ | refine aM ?_ | refine a7 ?_ | refine aT ?_ | refine cQ rfl ?_ | refine aA ?_))
 refine cW (St.of [(1,o1 (.ptr 1 0)),(3,vv (I6 ((m:Int) + 1))),(16,vv (.bool false))] [(1000,dT cs),(1,⟨true,83,2, .flat [.val (I6 mv), .esl 1000 i 0 m]⟩)]) ?_ ?_
 ·refine ah ?_
  (refine aa rfl (aj rfl rfl) (aa rfl (aG rfl rfl rfl rfl) (aa rfl (aj rfl rfl) ?_)))
  refine bS 19 rfl (fun e1=> ?_) (fun e1=> ?_)
  ·have e1:m=1:=by simp at e1;omega
   have hg2:¬aC labs 0 > 0:=fun h=>hq ⟨e1,h⟩
   have hgl:(aL labs)[0]? =some (I6 (aC labs 0)):=bl ae
   have hbf:eB .i64 .gtr (aC labs 0) 0=some (.bool false):=by simp [eB];omega
   (apply aH rfl rfl rfl;(exact aI (d:=1) rfl rfl rfl ab);apply aH rfl rfl rfl;exact aZ rfl ab rfl rfl rfl rfl;apply aH rfl rfl rfl;(first | exact aG rfl rfl rfl hbf | exact dK (j:=0) rfl rfl rfl rfl rfl ab hi ae rfl ae (Nat.le_refl _) | exact cM rfl ab rfl rfl rfl hi hgl);apply aH rfl rfl rfl;(first | exact aG rfl rfl rfl hbf | exact dK (j:=0) rfl rfl rfl rfl rfl ab hi ae rfl ae (Nat.le_refl _) | exact cM rfl ab rfl rfl rfl hi hgl);apply aH rfl rfl rfl;(first | exact aG rfl rfl rfl hbf | exact dK (j:=0) rfl rfl rfl rfl rfl ab hi ae rfl ae (Nat.le_refl _) | exact cM rfl ab rfl rfl rfl hi hgl);refine aa rfl (bp rfl rfl rfl) (aa rfl (ai rfl rfl) (ar ?_)))
   exact aV (Wk.of ⟨rfl,rfl,rfl,ag⟩ ⟨rfl,rfl,ag⟩ trivial)
  ·(apply aD rfl rfl rfl rfl rfl;apply aD rfl rfl rfl rfl rfl;apply aD rfl rfl rfl rfl rfl;apply aD rfl rfl rfl rfl rfl;apply aD rfl rfl rfl rfl rfl;refine aa rfl (bD rfl rfl rfl) (aa rfl (ai rfl rfl) (ar ?_)))
   exact aV (Wk.of ⟨rfl,rfl,rfl,ag⟩ ⟨rfl,rfl,ag⟩ trivial)
 (refine an ?_)
 refine ax rfl (fun e=>by cases e) (fun _=> ?_)
 (refine ak (ah (aa rfl (aU rfl rfl rfl rfl rfl rfl ab) ?_));apply aa rfl;(exact cN (E:=2) rfl ab rfl rfl);apply aa rfl;(first | (apply au 117;exact aw hE1 ab rfl rfl ⟨⟨.inl rfl, .inl rfl,ag⟩,rfl,ag⟩ ⟨⟨_,rfl, .inl rfl⟩,⟨_,rfl, .inr rfl⟩,ag⟩ rfl rfl) | exact aX (E:=2) rfl ab rfl rfl rfl | exact aY (E:=2) rfl ab rfl rfl rfl rfl);refine aa rfl (ai rfl rfl) (ar (an ?_)))
 refine ax rfl (fun e=>by cases e) (fun _=> ?_)
 (refine ak (ah (aa rfl (aU rfl rfl rfl rfl rfl rfl ab) ?_));apply aa rfl;(first | (apply au 117;exact aw hE2 ab rfl rfl ⟨⟨.inl rfl, .inl rfl,ag⟩,rfl,ag⟩ ⟨⟨_,rfl, .inl rfl⟩,⟨_,rfl, .inr rfl⟩,ag⟩ rfl rfl) | exact aX (E:=2) rfl ab rfl rfl rfl | exact aY (E:=2) rfl ab rfl rfl rfl rfl);apply aa rfl;(first | (apply au 117;exact aw hE2 ab rfl rfl ⟨⟨.inl rfl, .inl rfl,ag⟩,rfl,ag⟩ ⟨⟨_,rfl, .inl rfl⟩,⟨_,rfl, .inr rfl⟩,ag⟩ rfl rfl) | exact aX (E:=2) rfl ab rfl rfl rfl | exact aY (E:=2) rfl ab rfl rfl rfl rfl);refine aa rfl (ai rfl rfl) (ar (an ?_)))
 refine ax rfl (fun e=>by cases e) (fun _=> ?_)
 (refine ak (ah (aa rfl (aU rfl rfl rfl rfl rfl rfl ab) ?_));apply aa rfl;(first | (apply au 117;exact aw hE3 ab rfl rfl ⟨⟨.inl rfl, .inl rfl,ag⟩,rfl,ag⟩ ⟨⟨_,rfl, .inl rfl⟩,⟨_,rfl, .inr rfl⟩,ag⟩ rfl rfl) | exact aX (E:=2) rfl ab rfl rfl rfl | exact aY (E:=2) rfl ab rfl rfl rfl rfl);apply aa rfl;(first | (apply au 117;exact aw hE3 ab rfl rfl ⟨⟨.inl rfl, .inl rfl,ag⟩,rfl,ag⟩ ⟨⟨_,rfl, .inl rfl⟩,⟨_,rfl, .inr rfl⟩,ag⟩ rfl rfl) | exact aX (E:=2) rfl ab rfl rfl rfl | exact aY (E:=2) rfl ab rfl rfl rfl rfl);refine aa rfl (ai rfl rfl) (ar (an ?_)))
 refine ax rfl (fun e=>by cases e) (fun _=> ?_)
 (refine aE (aM (an (ak (ah ?_))));apply aa rfl;(exact bW (E:=2) rfl ab rfl);apply aa rfl;(exact aI (d:=1) rfl rfl rfl ab);apply aa rfl;exact aZ rfl ab rfl rfl rfl rfl;apply aa rfl;exact bw rfl rfl rfl ab;apply aa rfl;(first | (apply au 118;exact bg hR ab rfl rfl ⟨rfl,rfl,ag⟩ ⟨⟨_,rfl, .inr rfl⟩,ag⟩ rfl rfl rfl) | (apply au 119;exact aw hQ ab rfl rfl ⟨rfl,rfl,ag⟩ ⟨⟨_,rfl, .inl rfl⟩,⟨_,rfl, .inr rfl⟩,ag⟩ rfl rfl));refine aa rfl (ai rfl rfl) (ar (an (ak (ah (aa rfl (ai rfl rfl) (ar (an (ak (ak (ah ?_))))))))));apply aa rfl;(exact aI (d:=1) rfl rfl rfl ab);apply aa rfl;exact aZ rfl ab rfl rfl rfl rfl;apply aa rfl;exact aj rfl rfl;apply aa rfl;(first | (apply au 118;exact bg hR ab rfl rfl ⟨rfl,rfl,ag⟩ ⟨⟨_,rfl, .inr rfl⟩,ag⟩ rfl rfl rfl) | (apply au 119;exact aw hQ ab rfl rfl ⟨rfl,rfl,ag⟩ ⟨⟨_,rfl, .inl rfl⟩,⟨_,rfl, .inr rfl⟩,ag⟩ rfl rfl));refine ar (an ?_))
 refine ax rfl (fun e=>by cases e) (fun _=> ?_)
 (refine ak (ah (aa rfl (aj rfl rfl) ?_));apply aa rfl;exact aR rfl rfl rfl rfl rfl ab a9 aJ a8;apply aa rfl;(first | exact aR (j:=0) rfl rfl rfl rfl rfl ab rfl h0 (by rw [bc,hrl];exact Nat.le_refl _) | exact dW rfl rfl rfl rfl rfl (by rw [hrl];exact h0) ab | (apply au 117;exact aw hF ab rfl rfl ⟨⟨.inl rfl, .inl rfl,ag⟩,rfl,ag⟩ ⟨⟨_,rfl, .inl rfl⟩,⟨_,rfl, .inr rfl⟩,ag⟩ rfl rfl));refine ar (an (ak (ah (aa rfl (aU rfl rfl rfl rfl rfl rfl ab) ?_))));apply aa rfl;exact aj rfl rfl;apply aa rfl;(first | exact aR (j:=0) rfl rfl rfl rfl rfl ab rfl h0 (by rw [bc,hrl];exact Nat.le_refl _) | exact dW rfl rfl rfl rfl rfl (by rw [hrl];exact h0) ab | (apply au 117;exact aw hF ab rfl rfl ⟨⟨.inl rfl, .inl rfl,ag⟩,rfl,ag⟩ ⟨⟨_,rfl, .inl rfl⟩,⟨_,rfl, .inr rfl⟩,ag⟩ rfl rfl));refine ar (an ?_))
 refine ax rfl (fun _=> ?_) (fun e=>by cases e)
 (refine ah (aa rfl (ai rfl rfl) (ar (an (ak (ak (ah (aa rfl (aj rfl rfl) (aa rfl (aG rfl rfl rfl rfl) (ar (an ?_)))))))))))
 refine ax rfl (fun e=>by cases e) (fun _=> ?_)
 (refine aE (an (ak (ah (aa rfl (ai rfl rfl) (ar (an (ak (ak (ah (aa rfl (aj rfl rfl) (aa rfl (aj rfl rfl) ?_)))))))))));refine ar (an (aB ?_)))
 have hlp:∀k:Nat,k≤5→IntKind.i64.wrap ((2:Int) * (k:Int))=(2:Int) * k∧IntKind.i64.wrap (2 + (2:Int) * (k:Int))=2 + (2:Int) * k:=fun k hk=>⟨IntWalk.i64_in _ ae,IntWalk.i64_in _ ae⟩
 refine bz (fun k:Nat=>St.of [(5,vv (I6 2)),(6,o1 (.sl 2100 0 k)),(62,vv (I6 ((m:Int) + 1))),(63,vv (I6 k))] [(2100,bG (gm k 2))]) (fun k=>k≤m + 1) (fun k=>m + 1 - k) 0 (Nat.zero_le _) (Wk.trans (nq (t:=6) (n:=2100) (k:=1) (E:=2) (d:= .bR (aL (gm 0 2))) rfl rfl) (Wk.of ⟨rfl,rfl,rfl,rfl,ag⟩ ⟨rfl,ag⟩ trivial)) ?_
 rintro k hk
 have hlk:=hlp k ae
 (refine ak (ah (aa rfl (aG rfl rfl rfl rfl) (ar (an (ak ?_))))))
 refine bK rfl (fun hlt=> ?_) (fun hlt=> ?_)
 ·(refine aE (an (ak (aB (ak (ah (aa rfl (aj rfl rfl) (aa rfl (ai rfl rfl) (ar (an (ah (aa rfl (aj rfl rfl) ?_)))))))))));refine aa rfl (aj rfl rfl) (aa rfl (aj rfl rfl) ?_);apply aa rfl;(first | exact dV rfl rfl rfl hlk.1 | exact aP rfl rfl rfl hlk.2 | exact bE rfl ab rfl rfl rfl (dt _ _) rfl rfl ae);apply aa rfl;(first | exact dV rfl rfl rfl hlk.1 | exact aP rfl rfl rfl hlk.2 | exact bE rfl ab rfl rfl rfl (dt _ _) rfl rfl ae);apply aa rfl;(exact bW (E:=2) rfl ab rfl);apply aa rfl;(first | exact dV rfl rfl rfl hlk.1 | exact aP rfl rfl rfl hlk.2 | exact bE rfl ab rfl rfl rfl (dt _ _) rfl rfl ae);refine aa rfl (ai rfl rfl) (ar (aM (an (ah ?_))));apply aa rfl;exact aP rfl rfl rfl bA;refine aa rfl (aj rfl rfl) (ar ?_))
  exact aW (k + 1) ae ae (Wk.of ⟨rfl,rfl,rfl,rfl,ag⟩ ⟨by rw [jt];rfl,ag⟩ trivial)
 ·obtain rfl:k=m + 1:=by omega
  (refine a7 (aA (aA (aT (an (ak (ah (aa rfl (aj rfl rfl) (aa rfl (ai rfl rfl) (ar (an (aS ?_))))))))))))
  exact bu (.inl rfl) rfl (.tmp rfl) ⟨rfl,ag⟩ trivial
theorem F8 (cs:List kX) (mv:Int) (i m:Nat) (labs:List Int) (hi:cs[i]? =some (.r 2 1 m (aL labs))) (hm:labs.length=m) (hm4:m≤4) (h0:0 < m) (hq:¬(m=1∧0 < aC labs 0)) (e1:bQ labs [3,5]=false) (e2:bQ labs [3,3,5]=false) (e3:bQ labs [3,4,3]=false) (e4:labs≠List.replicate m 3) (e5:bQ labs ((List.replicate m (3:Int)).set 0 4)=false):
  FC Tryz.prog 70 [(1000,dT cs)] [cA mv i m] [] (vv (.slice none 0 0)) []:=by
 have hSz:=gn 1000 i m
 have hE1:=(cV cs mv i m 2 labs [3,5] hi hm rfl ae ae).nm [(1000,1000),(1001,33)] (by kernel_rfl)
 have hE1:FC Tryz.prog 117 [(1000,dT cs),(33,dk [3,5])] [cA mv i m,o1 (.sl 33 0 2)] [] (vv (.bool (bQ labs [3,5]))) []:=hE1
 rw [e1] at hE1
 have hE2:=(cV cs mv i m 3 labs [3,3,5] hi hm rfl ae ae).nm [(1000,1000),(1001,38)] (by kernel_rfl)
 have hE2:FC Tryz.prog 117 [(1000,dT cs),(38,dk [3,3,5])] [cA mv i m,o1 (.sl 38 0 3)] [] (vv (.bool (bQ labs [3,3,5]))) []:=hE2
 rw [e2] at hE2
 have hE3:=(cV cs mv i m 3 labs [3,4,3] hi hm rfl ae ae).nm [(1000,1000),(1001,43)] (by kernel_rfl)
 have hE3:FC Tryz.prog 117 [(1000,dT cs),(43,dk [3,4,3])] [cA mv i m,o1 (.sl 43 0 3)] [] (vv (.bool (bQ labs [3,4,3]))) []:=hE3
 rw [e3] at hE3
 refine bj (nt:=75) Tryz.func70 rfl rfl (by simp) fun w0 ω0=> ?_
 have hR:FC Tryz.prog 118 [(46,⟨false,2,1, .bR (aL [3])⟩)] [o1 (.sl 46 0 1),vv (I6 m)] [(50,⟨true,2,1, .bR (aL (List.replicate m 3))⟩)] (o1 (.sl 50 0 m)) []:=iz 46 50 m 3 ae h0
 have hrl:(List.replicate m (3:Int)).length=m:=by simp
 have hQ:=(kH cs i m m 83 2 labs (List.replicate m 3) hi hm hrl ae ae).nm [(1000,1000),(1001,50)] (by kernel_rfl)
 have hQ:FC Tryz.prog 119 [(1000,dT cs),(50,dk (List.replicate m 3))] [o1 (.esl 1000 i 0 m),o1 (.sl 50 0 m)] [] (vv (.bool (labs == List.replicate m 3))) []:=hQ
 have hF:=(cV cs mv i m m labs ((List.replicate m 3).set 0 4) hi hm (by simp) ae ae).nm [(1000,1000),(1001,50)] (by kernel_rfl)
 have hF:FC Tryz.prog 117 [(1000,dT cs),(50,dk ((List.replicate m 3).set 0 4))] [cA mv i m,o1 (.sl 50 0 m)] [] (vv (.bool (bQ labs ((List.replicate m 3).set 0 4)))) []:=hF
 have e4':(labs == List.replicate m 3)=false:=by simpa using e4
 rw [e4'] at hQ
 rw [e5] at hF
 have hw1:IntKind.i64.wrap ((m:Int) + 1)=(m:Int) + 1:=IntWalk.i64_in _ ae
 (refine ak (ah (aa rfl (cF rfl rfl rfl rfl) (aa rfl (ai rfl rfl) (ar (an (ak (ah ?_)))))));apply aa rfl;(exact aI (d:=1) rfl rfl rfl ab);apply aa rfl;exact aZ rfl ab rfl rfl rfl rfl;apply aa rfl;(first | (apply au 62;exact aw hSz ab rfl rfl ⟨rfl,ag⟩ trivial rfl rfl) | exact aP rfl rfl rfl hw1);apply aa rfl;(first | (apply au 62;exact aw hSz ab rfl rfl ⟨rfl,ag⟩ trivial rfl rfl) | exact aP rfl rfl rfl hw1);refine aa rfl (ai rfl rfl) (ar (an (ak (aB (ak (ah (aa rfl (aj rfl rfl) (aa rfl (aG rfl rfl rfl rfl) (aa rfl (ai rfl rfl) (ar (an ?_))))))))))))
 refine ax rfl (fun e=> ?_) (fun _=> ?_)
 ·exfalso;simp at e;omega
 (repeat (first | refine ak ?_ | refine an ?_ | refine aE ?_ | refine aB ?_ | refine aM ?_ | refine a7 ?_ | refine aT ?_ | refine cQ rfl ?_ | refine aA ?_))
 refine cW (St.of [(1,o1 (.ptr 1 0)),(3,vv (I6 ((m:Int) + 1))),(16,vv (.bool false))] [(1000,dT cs),(1,⟨true,83,2, .flat [.val (I6 mv), .esl 1000 i 0 m]⟩)]) ?_ ?_
 ·refine ah ?_
  (refine aa rfl (aj rfl rfl) (aa rfl (aG rfl rfl rfl rfl) (aa rfl (aj rfl rfl) ?_)))
  refine bS 19 rfl (fun e1=> ?_) (fun e1=> ?_)
  ·have e1:m=1:=by simp at e1;omega
   have hg2:¬aC labs 0 > 0:=fun h=>hq ⟨e1,h⟩
   have hgl:(aL labs)[0]? =some (I6 (aC labs 0)):=bl ae
   have hbf:eB .i64 .gtr (aC labs 0) 0=some (.bool false):=by simp [eB];omega
   (apply aH rfl rfl rfl;(exact aI (d:=1) rfl rfl rfl ab);apply aH rfl rfl rfl;exact aZ rfl ab rfl rfl rfl rfl;apply aH rfl rfl rfl;(first | exact aG rfl rfl rfl hbf | exact dK (j:=0) rfl rfl rfl rfl rfl ab hi ae rfl ae (Nat.le_refl _) | exact cM rfl ab rfl rfl rfl hi hgl);apply aH rfl rfl rfl;(first | exact aG rfl rfl rfl hbf | exact dK (j:=0) rfl rfl rfl rfl rfl ab hi ae rfl ae (Nat.le_refl _) | exact cM rfl ab rfl rfl rfl hi hgl);apply aH rfl rfl rfl;(first | exact aG rfl rfl rfl hbf | exact dK (j:=0) rfl rfl rfl rfl rfl ab hi ae rfl ae (Nat.le_refl _) | exact cM rfl ab rfl rfl rfl hi hgl);refine aa rfl (bp rfl rfl rfl) (aa rfl (ai rfl rfl) (ar ?_)))
   exact aV (Wk.of ⟨rfl,rfl,rfl,ag⟩ ⟨rfl,rfl,ag⟩ trivial)
  ·(apply aD rfl rfl rfl rfl rfl;apply aD rfl rfl rfl rfl rfl;apply aD rfl rfl rfl rfl rfl;apply aD rfl rfl rfl rfl rfl;apply aD rfl rfl rfl rfl rfl;refine aa rfl (bD rfl rfl rfl) (aa rfl (ai rfl rfl) (ar ?_)))
   exact aV (Wk.of ⟨rfl,rfl,rfl,ag⟩ ⟨rfl,rfl,ag⟩ trivial)
 (refine an ?_)
 refine ax rfl (fun e=>by cases e) (fun _=> ?_)
 (refine ak (ah (aa rfl (aU rfl rfl rfl rfl rfl rfl ab) ?_));apply aa rfl;(exact cN (E:=2) rfl ab rfl rfl);apply aa rfl;(first | (apply au 117;exact aw hE1 ab rfl rfl ⟨⟨.inl rfl, .inl rfl,ag⟩,rfl,ag⟩ ⟨⟨_,rfl, .inl rfl⟩,⟨_,rfl, .inr rfl⟩,ag⟩ rfl rfl) | exact aX (E:=2) rfl ab rfl rfl rfl | exact aY (E:=2) rfl ab rfl rfl rfl rfl);refine aa rfl (ai rfl rfl) (ar (an ?_)))
 refine ax rfl (fun e=>by cases e) (fun _=> ?_)
 (refine ak (ah (aa rfl (aU rfl rfl rfl rfl rfl rfl ab) ?_));apply aa rfl;(first | (apply au 117;exact aw hE2 ab rfl rfl ⟨⟨.inl rfl, .inl rfl,ag⟩,rfl,ag⟩ ⟨⟨_,rfl, .inl rfl⟩,⟨_,rfl, .inr rfl⟩,ag⟩ rfl rfl) | exact aX (E:=2) rfl ab rfl rfl rfl | exact aY (E:=2) rfl ab rfl rfl rfl rfl);apply aa rfl;(first | (apply au 117;exact aw hE2 ab rfl rfl ⟨⟨.inl rfl, .inl rfl,ag⟩,rfl,ag⟩ ⟨⟨_,rfl, .inl rfl⟩,⟨_,rfl, .inr rfl⟩,ag⟩ rfl rfl) | exact aX (E:=2) rfl ab rfl rfl rfl | exact aY (E:=2) rfl ab rfl rfl rfl rfl);refine aa rfl (ai rfl rfl) (ar (an ?_)))
 refine ax rfl (fun e=>by cases e) (fun _=> ?_)
 (refine ak (ah (aa rfl (aU rfl rfl rfl rfl rfl rfl ab) ?_));apply aa rfl;(first | (apply au 117;exact aw hE3 ab rfl rfl ⟨⟨.inl rfl, .inl rfl,ag⟩,rfl,ag⟩ ⟨⟨_,rfl, .inl rfl⟩,⟨_,rfl, .inr rfl⟩,ag⟩ rfl rfl) | exact aX (E:=2) rfl ab rfl rfl rfl | exact aY (E:=2) rfl ab rfl rfl rfl rfl);apply aa rfl;(first | (apply au 117;exact aw hE3 ab rfl rfl ⟨⟨.inl rfl, .inl rfl,ag⟩,rfl,ag⟩ ⟨⟨_,rfl, .inl rfl⟩,⟨_,rfl, .inr rfl⟩,ag⟩ rfl rfl) | exact aX (E:=2) rfl ab rfl rfl rfl | exact aY (E:=2) rfl ab rfl rfl rfl rfl);refine aa rfl (ai rfl rfl) (ar (an ?_)))
 refine ax rfl (fun e=>by cases e) (fun _=> ?_)
 (refine aE (aM (an (ak (ah ?_))));apply aa rfl;(exact bW (E:=2) rfl ab rfl);apply aa rfl;(exact aI (d:=1) rfl rfl rfl ab);apply aa rfl;exact aZ rfl ab rfl rfl rfl rfl;apply aa rfl;exact bw rfl rfl rfl ab;apply aa rfl;(first | (apply au 118;exact bg hR ab rfl rfl ⟨rfl,rfl,ag⟩ ⟨⟨_,rfl, .inr rfl⟩,ag⟩ rfl rfl rfl) | (apply au 119;exact aw hQ ab rfl rfl ⟨rfl,rfl,ag⟩ ⟨⟨_,rfl, .inl rfl⟩,⟨_,rfl, .inr rfl⟩,ag⟩ rfl rfl));refine aa rfl (ai rfl rfl) (ar (an (ak (ah (aa rfl (ai rfl rfl) (ar (an (ak (ak (ah ?_))))))))));apply aa rfl;(exact aI (d:=1) rfl rfl rfl ab);apply aa rfl;exact aZ rfl ab rfl rfl rfl rfl;apply aa rfl;exact aj rfl rfl;apply aa rfl;(first | (apply au 118;exact bg hR ab rfl rfl ⟨rfl,rfl,ag⟩ ⟨⟨_,rfl, .inr rfl⟩,ag⟩ rfl rfl rfl) | (apply au 119;exact aw hQ ab rfl rfl ⟨rfl,rfl,ag⟩ ⟨⟨_,rfl, .inl rfl⟩,⟨_,rfl, .inr rfl⟩,ag⟩ rfl rfl));refine ar (an ?_))
 refine ax rfl (fun e=>by cases e) (fun _=> ?_)
 (refine ak (ah (aa rfl (aj rfl rfl) ?_));apply aa rfl;exact aR rfl rfl rfl rfl rfl ab a9 aJ a8;apply aa rfl;(first | exact aR (j:=0) rfl rfl rfl rfl rfl ab rfl h0 (by rw [bc,hrl];exact Nat.le_refl _) | exact dW rfl rfl rfl rfl rfl (by rw [hrl];exact h0) ab | (apply au 117;exact aw hF ab rfl rfl ⟨⟨.inl rfl, .inl rfl,ag⟩,rfl,ag⟩ ⟨⟨_,rfl, .inl rfl⟩,⟨_,rfl, .inr rfl⟩,ag⟩ rfl rfl));refine ar (an (ak (ah (aa rfl (aU rfl rfl rfl rfl rfl rfl ab) ?_))));apply aa rfl;exact aj rfl rfl;apply aa rfl;(first | exact aR (j:=0) rfl rfl rfl rfl rfl ab rfl h0 (by rw [bc,hrl];exact Nat.le_refl _) | exact dW rfl rfl rfl rfl rfl (by rw [hrl];exact h0) ab | (apply au 117;exact aw hF ab rfl rfl ⟨⟨.inl rfl, .inl rfl,ag⟩,rfl,ag⟩ ⟨⟨_,rfl, .inl rfl⟩,⟨_,rfl, .inr rfl⟩,ag⟩ rfl rfl));refine ar (an ?_))
 refine ax rfl (fun e=>by cases e) (fun _=> ?_)
 (refine aE (an (ak (ak (ah (aa rfl (aj rfl rfl) (aa rfl (aG rfl rfl rfl rfl) (ar (an ?_)))))))))
 refine ax rfl (fun _=> ?_) (fun e=>by cases e)
 (refine ak (ah (aa rfl (ai rfl rfl) (ar (an (aS (aO ?_)))))))
 exact bu (.inl rfl) rfl (.tmp rfl) trivial trivial
theorem vC (cs:List kX) (mv:Int) (i m:Nat) (labs:List Int) (hi:cs[i]? =some (.r 2 1 m (aL labs))) (hm:labs.length=m) (hm4:m≤4):
  (dA labs= []∧FC Tryz.prog 70 [(1000,dT cs)] [cA mv i m] [] (vv (.slice none 0 0)) [])∨((dA labs).length=m + 1∧FC Tryz.prog 70 [(1000,dT cs)] [cA mv i m] [(2100,bG (dA labs))] (o1 (.sl 2100 0 (m + 1))) []):=by
 unfold dA
 rw [hm]
 by_cases h0:m=0
 ·rw [if_pos h0]
  subst h0
  exact .inr ⟨rfl,(Fz cs mv i 0 labs hi hm hm4 rfl).nm [(1000,1000),(15,2100)] (by kernel_rfl)⟩
 rw [if_neg h0]
 by_cases hq:m=1∧0 < aC labs 0
 ·rw [if_pos hq]
  obtain ⟨rfl,hp⟩:=hq
  exact .inr ⟨rfl,(F1 cs mv i 1 labs hi hm hm4 rfl hp).nm [(1000,1000),(30,2100)] (by kernel_rfl)⟩
 rw [if_neg hq]
 have h0':0 < m:=by omega
 cases e1:bQ labs [3,5] with
 | true=>
  obtain rfl:m=2:=by rcases gf.1 e1 with rfl | rfl<;>exact hm.symm
  exact .inr ⟨rfl,(Gz cs mv i 2 labs hi hm hm4 h0' hq e1).nm [(1000,1000),(35,2100)] (by kernel_rfl)⟩
 | false=>
 cases e2:bQ labs [3,3,5] with
 | true=>
  obtain rfl:m=3:=by rcases gf.1 e2 with rfl | rfl<;>exact hm.symm
  exact .inr ⟨rfl,(FH cs mv i 3 labs hi hm hm4 h0' hq e1 e2).nm [(1000,1000),(40,2100)] (by kernel_rfl)⟩
 | false=>
 cases e3:bQ labs [3,4,3] with
 | true=>
  obtain rfl:m=3:=by rcases gf.1 e3 with rfl | rfl<;>exact hm.symm
  exact .inr ⟨rfl,(Fv cs mv i 3 labs hi hm hm4 h0' hq e1 e2 e3).nm [(1000,1000),(45,2100)] (by kernel_rfl)⟩
 | false=>
 by_cases e4:labs=List.replicate m 3
 ·rw [if_pos e4]
  exact .inr ⟨dt _ _,Gk cs mv i m labs hi hm hm4 h0' hq e1 e2 e3 e4⟩
 rw [if_neg e4]
 cases e5:bQ labs ((List.replicate m (3:Int)).set 0 4) with
 | true=>exact .inr ⟨dt _ _,Gu cs mv i m labs hi hm hm4 h0' hq e1 e2 e3 e4 e5⟩
 | false=>exact .inl ⟨rfl,F8 cs mv i m labs hi hm hm4 h0' hq e1 e2 e3 e4 e5⟩
theorem BY (cs:List kX) (mv:Int) (i m:Nat) (labs:List Int) (hi:cs[i]? =some (.r 2 1 m (aL labs))) (hm:labs.length=m) (hm4:m≤4):
  FC Tryz.prog 71 [(1000,dT cs)] [cA mv i m] [] (vv (.bool (zk labs))) []:=by
 have hE0:=(cV cs mv i m 1 labs [0] hi hm rfl ae ae).nm [(1000,1000),(1001,4)] (by kernel_rfl)
 have hE0:FC Tryz.prog 117 [(1000,dT cs),(4,dk [0])] [cA mv i m,o1 (.sl 4 0 1)] [] (vv (.bool (bQ labs [0]))) []:=hE0
 have hE1:=(cV cs mv i m 2 labs [4,4] hi hm rfl ae ae).nm [(1000,1000),(1001,8)] (by kernel_rfl)
 have hE1:FC Tryz.prog 117 [(1000,dT cs),(8,dk [4,4])] [cA mv i m,o1 (.sl 8 0 2)] [] (vv (.bool (bQ labs [4,4]))) []:=hE1
 have hE2:=(cV cs mv i m 2 labs [3,6] hi hm rfl ae ae).nm [(1000,1000),(1001,13)] (by kernel_rfl)
 have hE2:FC Tryz.prog 117 [(1000,dT cs),(13,dk [3,6])] [cA mv i m,o1 (.sl 13 0 2)] [] (vv (.bool (bQ labs [3,6]))) []:=hE2
 have hE3:=(cV cs mv i m 3 labs [4,3,4] hi hm rfl ae ae).nm [(1000,1000),(1001,18)] (by kernel_rfl)
 have hE3:FC Tryz.prog 117 [(1000,dT cs),(18,dk [4,3,4])] [cA mv i m,o1 (.sl 18 0 3)] [] (vv (.bool (bQ labs [4,3,4]))) []:=hE3
 have hE4:=(cV cs mv i m 4 labs [3,4,3,3] hi hm rfl ae ae).nm [(1000,1000),(1001,23)] (by kernel_rfl)
 have hE4:FC Tryz.prog 117 [(1000,dT cs),(23,dk [3,4,3,3])] [cA mv i m,o1 (.sl 23 0 4)] [] (vv (.bool (bQ labs [3,4,3,3]))) []:=hE4
 have hE5:=(cV cs mv i m 4 labs [4,3,3,4] hi hm rfl ae ae).nm [(1000,1000),(1001,28)] (by kernel_rfl)
 have hE5:FC Tryz.prog 117 [(1000,dT cs),(28,dk [4,3,3,4])] [cA mv i m,o1 (.sl 28 0 4)] [] (vv (.bool (bQ labs [4,3,3,4]))) []:=hE5
 refine bj (nt:=31) Tryz.func71 rfl rfl (by simp) fun w0 ω0=> ?_
 unfold zk
 (refine ak (ah (aa rfl (cF rfl rfl rfl rfl) (aa rfl (ai rfl rfl) (ar (an (ak (ah (aa rfl (aU rfl rfl rfl rfl rfl rfl ab) ?_))))))));apply aa rfl;(exact bW (E:=2) rfl ab rfl);apply aa rfl;(first | (apply au 117;exact aw hE0 ab rfl rfl ⟨⟨.inl rfl, .inl rfl,ag⟩,rfl,ag⟩ ⟨⟨_,rfl, .inl rfl⟩,⟨_,rfl, .inr rfl⟩,ag⟩ rfl rfl) | (apply au 117;exact aw hE1 ab rfl rfl ⟨⟨.inl rfl, .inl rfl,ag⟩,rfl,ag⟩ ⟨⟨_,rfl, .inl rfl⟩,⟨_,rfl, .inr rfl⟩,ag⟩ rfl rfl) | (apply au 117;exact aw hE2 ab rfl rfl ⟨⟨.inl rfl, .inl rfl,ag⟩,rfl,ag⟩ ⟨⟨_,rfl, .inl rfl⟩,⟨_,rfl, .inr rfl⟩,ag⟩ rfl rfl) | (apply au 117;exact aw hE3 ab rfl rfl ⟨⟨.inl rfl, .inl rfl,ag⟩,rfl,ag⟩ ⟨⟨_,rfl, .inl rfl⟩,⟨_,rfl, .inr rfl⟩,ag⟩ rfl rfl) | (apply au 117;exact aw hE4 ab rfl rfl ⟨⟨.inl rfl, .inl rfl,ag⟩,rfl,ag⟩ ⟨⟨_,rfl, .inl rfl⟩,⟨_,rfl, .inr rfl⟩,ag⟩ rfl rfl) | (apply au 117;exact aw hE5 ab rfl rfl ⟨⟨.inl rfl, .inl rfl,ag⟩,rfl,ag⟩ ⟨⟨_,rfl, .inl rfl⟩,⟨_,rfl, .inr rfl⟩,ag⟩ rfl rfl) | exact aX (E:=2) rfl ab rfl rfl rfl | exact aY (E:=2) rfl ab rfl rfl rfl rfl);apply aa rfl;exact aj rfl rfl)
 refine bS 6 rfl (fun h=> ?_) (fun h=> ?_)
 ·rw [h]
  simp only [Bool.true_or]
  (apply aD rfl rfl rfl rfl rfl;apply aD rfl rfl rfl rfl rfl;apply aD rfl rfl rfl rfl rfl;refine aa rfl (bp rfl rfl rfl) (aa rfl (aj rfl rfl) ?_);apply aD rfl rfl rfl rfl rfl;apply aD rfl rfl rfl rfl rfl;apply aD rfl rfl rfl rfl rfl;refine aa rfl (bp rfl rfl rfl) (aa rfl (aj rfl rfl) ?_);apply aD rfl rfl rfl rfl rfl;apply aD rfl rfl rfl rfl rfl;apply aD rfl rfl rfl rfl rfl;refine aa rfl (bp rfl rfl rfl) (aa rfl (aj rfl rfl) ?_);apply aD rfl rfl rfl rfl rfl;apply aD rfl rfl rfl rfl rfl;apply aD rfl rfl rfl rfl rfl;refine aa rfl (bp rfl rfl rfl) (aa rfl (aj rfl rfl) ?_);apply aD rfl rfl rfl rfl rfl;apply aD rfl rfl rfl rfl rfl;apply aD rfl rfl rfl rfl rfl;refine aa rfl (bp rfl rfl rfl) (aa rfl (ai rfl rfl) (ar (an (aS ?_)))))
  exact bu (.inl rfl) rfl (.tmp rfl) trivial trivial
 rw [h,Bool.false_or]
 (apply aH rfl rfl rfl;exact aU rfl rfl rfl rfl rfl rfl ab;apply aH rfl rfl rfl;(exact cN (E:=2) rfl ab rfl rfl);apply aH rfl rfl rfl;(first | (apply au 117;exact aw hE0 ab rfl rfl ⟨⟨.inl rfl, .inl rfl,ag⟩,rfl,ag⟩ ⟨⟨_,rfl, .inl rfl⟩,⟨_,rfl, .inr rfl⟩,ag⟩ rfl rfl) | (apply au 117;exact aw hE1 ab rfl rfl ⟨⟨.inl rfl, .inl rfl,ag⟩,rfl,ag⟩ ⟨⟨_,rfl, .inl rfl⟩,⟨_,rfl, .inr rfl⟩,ag⟩ rfl rfl) | (apply au 117;exact aw hE2 ab rfl rfl ⟨⟨.inl rfl, .inl rfl,ag⟩,rfl,ag⟩ ⟨⟨_,rfl, .inl rfl⟩,⟨_,rfl, .inr rfl⟩,ag⟩ rfl rfl) | (apply au 117;exact aw hE3 ab rfl rfl ⟨⟨.inl rfl, .inl rfl,ag⟩,rfl,ag⟩ ⟨⟨_,rfl, .inl rfl⟩,⟨_,rfl, .inr rfl⟩,ag⟩ rfl rfl) | (apply au 117;exact aw hE4 ab rfl rfl ⟨⟨.inl rfl, .inl rfl,ag⟩,rfl,ag⟩ ⟨⟨_,rfl, .inl rfl⟩,⟨_,rfl, .inr rfl⟩,ag⟩ rfl rfl) | (apply au 117;exact aw hE5 ab rfl rfl ⟨⟨.inl rfl, .inl rfl,ag⟩,rfl,ag⟩ ⟨⟨_,rfl, .inl rfl⟩,⟨_,rfl, .inr rfl⟩,ag⟩ rfl rfl) | exact aX (E:=2) rfl ab rfl rfl rfl | exact aY (E:=2) rfl ab rfl rfl rfl rfl);refine aa rfl (bD rfl rfl rfl) (aa rfl (aj rfl rfl) ?_))
 refine bS 11 rfl (fun h=> ?_) (fun h=> ?_)
 ·rw [h]
  simp only [Bool.true_or]
  (apply aD rfl rfl rfl rfl rfl;apply aD rfl rfl rfl rfl rfl;apply aD rfl rfl rfl rfl rfl;refine aa rfl (bp rfl rfl rfl) (aa rfl (aj rfl rfl) ?_);apply aD rfl rfl rfl rfl rfl;apply aD rfl rfl rfl rfl rfl;apply aD rfl rfl rfl rfl rfl;refine aa rfl (bp rfl rfl rfl) (aa rfl (aj rfl rfl) ?_);apply aD rfl rfl rfl rfl rfl;apply aD rfl rfl rfl rfl rfl;apply aD rfl rfl rfl rfl rfl;refine aa rfl (bp rfl rfl rfl) (aa rfl (aj rfl rfl) ?_);apply aD rfl rfl rfl rfl rfl;apply aD rfl rfl rfl rfl rfl;apply aD rfl rfl rfl rfl rfl;refine aa rfl (bp rfl rfl rfl) (aa rfl (ai rfl rfl) (ar (an (aS ?_)))))
  exact bu (.inl rfl) rfl (.tmp rfl) trivial trivial
 rw [h,Bool.false_or]
 (apply aH rfl rfl rfl;exact aU rfl rfl rfl rfl rfl rfl ab;apply aH rfl rfl rfl;(exact cN (E:=2) rfl ab rfl rfl);apply aH rfl rfl rfl;(first | (apply au 117;exact aw hE0 ab rfl rfl ⟨⟨.inl rfl, .inl rfl,ag⟩,rfl,ag⟩ ⟨⟨_,rfl, .inl rfl⟩,⟨_,rfl, .inr rfl⟩,ag⟩ rfl rfl) | (apply au 117;exact aw hE1 ab rfl rfl ⟨⟨.inl rfl, .inl rfl,ag⟩,rfl,ag⟩ ⟨⟨_,rfl, .inl rfl⟩,⟨_,rfl, .inr rfl⟩,ag⟩ rfl rfl) | (apply au 117;exact aw hE2 ab rfl rfl ⟨⟨.inl rfl, .inl rfl,ag⟩,rfl,ag⟩ ⟨⟨_,rfl, .inl rfl⟩,⟨_,rfl, .inr rfl⟩,ag⟩ rfl rfl) | (apply au 117;exact aw hE3 ab rfl rfl ⟨⟨.inl rfl, .inl rfl,ag⟩,rfl,ag⟩ ⟨⟨_,rfl, .inl rfl⟩,⟨_,rfl, .inr rfl⟩,ag⟩ rfl rfl) | (apply au 117;exact aw hE4 ab rfl rfl ⟨⟨.inl rfl, .inl rfl,ag⟩,rfl,ag⟩ ⟨⟨_,rfl, .inl rfl⟩,⟨_,rfl, .inr rfl⟩,ag⟩ rfl rfl) | (apply au 117;exact aw hE5 ab rfl rfl ⟨⟨.inl rfl, .inl rfl,ag⟩,rfl,ag⟩ ⟨⟨_,rfl, .inl rfl⟩,⟨_,rfl, .inr rfl⟩,ag⟩ rfl rfl) | exact aX (E:=2) rfl ab rfl rfl rfl | exact aY (E:=2) rfl ab rfl rfl rfl rfl);refine aa rfl (bD rfl rfl rfl) (aa rfl (aj rfl rfl) ?_))
 refine bS 16 rfl (fun h=> ?_) (fun h=> ?_)
 ·rw [h]
  simp only [Bool.true_or]
  (apply aD rfl rfl rfl rfl rfl;apply aD rfl rfl rfl rfl rfl;apply aD rfl rfl rfl rfl rfl;refine aa rfl (bp rfl rfl rfl) (aa rfl (aj rfl rfl) ?_);apply aD rfl rfl rfl rfl rfl;apply aD rfl rfl rfl rfl rfl;apply aD rfl rfl rfl rfl rfl;refine aa rfl (bp rfl rfl rfl) (aa rfl (aj rfl rfl) ?_);apply aD rfl rfl rfl rfl rfl;apply aD rfl rfl rfl rfl rfl;apply aD rfl rfl rfl rfl rfl;refine aa rfl (bp rfl rfl rfl) (aa rfl (ai rfl rfl) (ar (an (aS ?_)))))
  exact bu (.inl rfl) rfl (.tmp rfl) trivial trivial
 rw [h,Bool.false_or]
 (apply aH rfl rfl rfl;exact aU rfl rfl rfl rfl rfl rfl ab;apply aH rfl rfl rfl;(first | (apply au 117;exact aw hE0 ab rfl rfl ⟨⟨.inl rfl, .inl rfl,ag⟩,rfl,ag⟩ ⟨⟨_,rfl, .inl rfl⟩,⟨_,rfl, .inr rfl⟩,ag⟩ rfl rfl) | (apply au 117;exact aw hE1 ab rfl rfl ⟨⟨.inl rfl, .inl rfl,ag⟩,rfl,ag⟩ ⟨⟨_,rfl, .inl rfl⟩,⟨_,rfl, .inr rfl⟩,ag⟩ rfl rfl) | (apply au 117;exact aw hE2 ab rfl rfl ⟨⟨.inl rfl, .inl rfl,ag⟩,rfl,ag⟩ ⟨⟨_,rfl, .inl rfl⟩,⟨_,rfl, .inr rfl⟩,ag⟩ rfl rfl) | (apply au 117;exact aw hE3 ab rfl rfl ⟨⟨.inl rfl, .inl rfl,ag⟩,rfl,ag⟩ ⟨⟨_,rfl, .inl rfl⟩,⟨_,rfl, .inr rfl⟩,ag⟩ rfl rfl) | (apply au 117;exact aw hE4 ab rfl rfl ⟨⟨.inl rfl, .inl rfl,ag⟩,rfl,ag⟩ ⟨⟨_,rfl, .inl rfl⟩,⟨_,rfl, .inr rfl⟩,ag⟩ rfl rfl) | (apply au 117;exact aw hE5 ab rfl rfl ⟨⟨.inl rfl, .inl rfl,ag⟩,rfl,ag⟩ ⟨⟨_,rfl, .inl rfl⟩,⟨_,rfl, .inr rfl⟩,ag⟩ rfl rfl) | exact aX (E:=2) rfl ab rfl rfl rfl | exact aY (E:=2) rfl ab rfl rfl rfl rfl);apply aH rfl rfl rfl;(first | (apply au 117;exact aw hE0 ab rfl rfl ⟨⟨.inl rfl, .inl rfl,ag⟩,rfl,ag⟩ ⟨⟨_,rfl, .inl rfl⟩,⟨_,rfl, .inr rfl⟩,ag⟩ rfl rfl) | (apply au 117;exact aw hE1 ab rfl rfl ⟨⟨.inl rfl, .inl rfl,ag⟩,rfl,ag⟩ ⟨⟨_,rfl, .inl rfl⟩,⟨_,rfl, .inr rfl⟩,ag⟩ rfl rfl) | (apply au 117;exact aw hE2 ab rfl rfl ⟨⟨.inl rfl, .inl rfl,ag⟩,rfl,ag⟩ ⟨⟨_,rfl, .inl rfl⟩,⟨_,rfl, .inr rfl⟩,ag⟩ rfl rfl) | (apply au 117;exact aw hE3 ab rfl rfl ⟨⟨.inl rfl, .inl rfl,ag⟩,rfl,ag⟩ ⟨⟨_,rfl, .inl rfl⟩,⟨_,rfl, .inr rfl⟩,ag⟩ rfl rfl) | (apply au 117;exact aw hE4 ab rfl rfl ⟨⟨.inl rfl, .inl rfl,ag⟩,rfl,ag⟩ ⟨⟨_,rfl, .inl rfl⟩,⟨_,rfl, .inr rfl⟩,ag⟩ rfl rfl) | (apply au 117;exact aw hE5 ab rfl rfl ⟨⟨.inl rfl, .inl rfl,ag⟩,rfl,ag⟩ ⟨⟨_,rfl, .inl rfl⟩,⟨_,rfl, .inr rfl⟩,ag⟩ rfl rfl) | exact aX (E:=2) rfl ab rfl rfl rfl | exact aY (E:=2) rfl ab rfl rfl rfl rfl);refine aa rfl (bD rfl rfl rfl) (aa rfl (aj rfl rfl) ?_))
 refine bS 21 rfl (fun h=> ?_) (fun h=> ?_)
 ·rw [h]
  simp only [Bool.true_or]
  (apply aD rfl rfl rfl rfl rfl;apply aD rfl rfl rfl rfl rfl;apply aD rfl rfl rfl rfl rfl;refine aa rfl (bp rfl rfl rfl) (aa rfl (aj rfl rfl) ?_);apply aD rfl rfl rfl rfl rfl;apply aD rfl rfl rfl rfl rfl;apply aD rfl rfl rfl rfl rfl;refine aa rfl (bp rfl rfl rfl) (aa rfl (ai rfl rfl) (ar (an (aS ?_)))))
  exact bu (.inl rfl) rfl (.tmp rfl) trivial trivial
 rw [h,Bool.false_or]
 (apply aH rfl rfl rfl;exact aU rfl rfl rfl rfl rfl rfl ab;apply aH rfl rfl rfl;(first | (apply au 117;exact aw hE0 ab rfl rfl ⟨⟨.inl rfl, .inl rfl,ag⟩,rfl,ag⟩ ⟨⟨_,rfl, .inl rfl⟩,⟨_,rfl, .inr rfl⟩,ag⟩ rfl rfl) | (apply au 117;exact aw hE1 ab rfl rfl ⟨⟨.inl rfl, .inl rfl,ag⟩,rfl,ag⟩ ⟨⟨_,rfl, .inl rfl⟩,⟨_,rfl, .inr rfl⟩,ag⟩ rfl rfl) | (apply au 117;exact aw hE2 ab rfl rfl ⟨⟨.inl rfl, .inl rfl,ag⟩,rfl,ag⟩ ⟨⟨_,rfl, .inl rfl⟩,⟨_,rfl, .inr rfl⟩,ag⟩ rfl rfl) | (apply au 117;exact aw hE3 ab rfl rfl ⟨⟨.inl rfl, .inl rfl,ag⟩,rfl,ag⟩ ⟨⟨_,rfl, .inl rfl⟩,⟨_,rfl, .inr rfl⟩,ag⟩ rfl rfl) | (apply au 117;exact aw hE4 ab rfl rfl ⟨⟨.inl rfl, .inl rfl,ag⟩,rfl,ag⟩ ⟨⟨_,rfl, .inl rfl⟩,⟨_,rfl, .inr rfl⟩,ag⟩ rfl rfl) | (apply au 117;exact aw hE5 ab rfl rfl ⟨⟨.inl rfl, .inl rfl,ag⟩,rfl,ag⟩ ⟨⟨_,rfl, .inl rfl⟩,⟨_,rfl, .inr rfl⟩,ag⟩ rfl rfl) | exact aX (E:=2) rfl ab rfl rfl rfl | exact aY (E:=2) rfl ab rfl rfl rfl rfl);apply aH rfl rfl rfl;(first | (apply au 117;exact aw hE0 ab rfl rfl ⟨⟨.inl rfl, .inl rfl,ag⟩,rfl,ag⟩ ⟨⟨_,rfl, .inl rfl⟩,⟨_,rfl, .inr rfl⟩,ag⟩ rfl rfl) | (apply au 117;exact aw hE1 ab rfl rfl ⟨⟨.inl rfl, .inl rfl,ag⟩,rfl,ag⟩ ⟨⟨_,rfl, .inl rfl⟩,⟨_,rfl, .inr rfl⟩,ag⟩ rfl rfl) | (apply au 117;exact aw hE2 ab rfl rfl ⟨⟨.inl rfl, .inl rfl,ag⟩,rfl,ag⟩ ⟨⟨_,rfl, .inl rfl⟩,⟨_,rfl, .inr rfl⟩,ag⟩ rfl rfl) | (apply au 117;exact aw hE3 ab rfl rfl ⟨⟨.inl rfl, .inl rfl,ag⟩,rfl,ag⟩ ⟨⟨_,rfl, .inl rfl⟩,⟨_,rfl, .inr rfl⟩,ag⟩ rfl rfl) | (apply au 117;exact aw hE4 ab rfl rfl ⟨⟨.inl rfl, .inl rfl,ag⟩,rfl,ag⟩ ⟨⟨_,rfl, .inl rfl⟩,⟨_,rfl, .inr rfl⟩,ag⟩ rfl rfl) | (apply au 117;exact aw hE5 ab rfl rfl ⟨⟨.inl rfl, .inl rfl,ag⟩,rfl,ag⟩ ⟨⟨_,rfl, .inl rfl⟩,⟨_,rfl, .inr rfl⟩,ag⟩ rfl rfl) | exact aX (E:=2) rfl ab rfl rfl rfl | exact aY (E:=2) rfl ab rfl rfl rfl rfl);refine aa rfl (bD rfl rfl rfl) (aa rfl (aj rfl rfl) ?_))
 refine bS 26 rfl (fun h=> ?_) (fun h=> ?_)
 ·rw [h]
  simp only [Bool.true_or]
  (apply aD rfl rfl rfl rfl rfl;apply aD rfl rfl rfl rfl rfl;apply aD rfl rfl rfl rfl rfl;refine aa rfl (bp rfl rfl rfl) (aa rfl (ai rfl rfl) (ar (an (aS ?_)))))
  exact bu (.inl rfl) rfl (.tmp rfl) trivial trivial
 rw [h,Bool.false_or]
 (apply aH rfl rfl rfl;exact aU rfl rfl rfl rfl rfl rfl ab;apply aH rfl rfl rfl;(first | (apply au 117;exact aw hE0 ab rfl rfl ⟨⟨.inl rfl, .inl rfl,ag⟩,rfl,ag⟩ ⟨⟨_,rfl, .inl rfl⟩,⟨_,rfl, .inr rfl⟩,ag⟩ rfl rfl) | (apply au 117;exact aw hE1 ab rfl rfl ⟨⟨.inl rfl, .inl rfl,ag⟩,rfl,ag⟩ ⟨⟨_,rfl, .inl rfl⟩,⟨_,rfl, .inr rfl⟩,ag⟩ rfl rfl) | (apply au 117;exact aw hE2 ab rfl rfl ⟨⟨.inl rfl, .inl rfl,ag⟩,rfl,ag⟩ ⟨⟨_,rfl, .inl rfl⟩,⟨_,rfl, .inr rfl⟩,ag⟩ rfl rfl) | (apply au 117;exact aw hE3 ab rfl rfl ⟨⟨.inl rfl, .inl rfl,ag⟩,rfl,ag⟩ ⟨⟨_,rfl, .inl rfl⟩,⟨_,rfl, .inr rfl⟩,ag⟩ rfl rfl) | (apply au 117;exact aw hE4 ab rfl rfl ⟨⟨.inl rfl, .inl rfl,ag⟩,rfl,ag⟩ ⟨⟨_,rfl, .inl rfl⟩,⟨_,rfl, .inr rfl⟩,ag⟩ rfl rfl) | (apply au 117;exact aw hE5 ab rfl rfl ⟨⟨.inl rfl, .inl rfl,ag⟩,rfl,ag⟩ ⟨⟨_,rfl, .inl rfl⟩,⟨_,rfl, .inr rfl⟩,ag⟩ rfl rfl) | exact aX (E:=2) rfl ab rfl rfl rfl | exact aY (E:=2) rfl ab rfl rfl rfl rfl);apply aH rfl rfl rfl;(first | (apply au 117;exact aw hE0 ab rfl rfl ⟨⟨.inl rfl, .inl rfl,ag⟩,rfl,ag⟩ ⟨⟨_,rfl, .inl rfl⟩,⟨_,rfl, .inr rfl⟩,ag⟩ rfl rfl) | (apply au 117;exact aw hE1 ab rfl rfl ⟨⟨.inl rfl, .inl rfl,ag⟩,rfl,ag⟩ ⟨⟨_,rfl, .inl rfl⟩,⟨_,rfl, .inr rfl⟩,ag⟩ rfl rfl) | (apply au 117;exact aw hE2 ab rfl rfl ⟨⟨.inl rfl, .inl rfl,ag⟩,rfl,ag⟩ ⟨⟨_,rfl, .inl rfl⟩,⟨_,rfl, .inr rfl⟩,ag⟩ rfl rfl) | (apply au 117;exact aw hE3 ab rfl rfl ⟨⟨.inl rfl, .inl rfl,ag⟩,rfl,ag⟩ ⟨⟨_,rfl, .inl rfl⟩,⟨_,rfl, .inr rfl⟩,ag⟩ rfl rfl) | (apply au 117;exact aw hE4 ab rfl rfl ⟨⟨.inl rfl, .inl rfl,ag⟩,rfl,ag⟩ ⟨⟨_,rfl, .inl rfl⟩,⟨_,rfl, .inr rfl⟩,ag⟩ rfl rfl) | (apply au 117;exact aw hE5 ab rfl rfl ⟨⟨.inl rfl, .inl rfl,ag⟩,rfl,ag⟩ ⟨⟨_,rfl, .inl rfl⟩,⟨_,rfl, .inr rfl⟩,ag⟩ rfl rfl) | exact aX (E:=2) rfl ab rfl rfl rfl | exact aY (E:=2) rfl ab rfl rfl rfl rfl);refine aa rfl (bD rfl rfl rfl) (aa rfl (ai rfl rfl) (ar (an (aS ?_)))))
 exact bu (.inl rfl) rfl (.tmp rfl) trivial trivial
end Go.Proofs.YtekbhbcgoadciaaGreat
namespace Go.Proofs.YtekbhbcgoadciaaGreat
open Go.RowKit
theorem sh {ps:eO} {j:Nat} (hj:j < ps.length) (x:Nm):∀(i:Nat) (b:A1), [A1.val (I6 ((dz ps j).1:Int)),A1.esl x (j * 2 + 1) 0 (dz ps j).2.length][i]? =some b→(eQ.mix (fS ps)).at_ x (j * 2 + i)=some b:=by
 intro i b hb
 have hg:=kO hj
 match i,hb with
 | 0,hb=>simp at hb;subst hb;simp only [eQ.at_,Nat.add_zero];rw [hg.1]
 | 1,hb=>simp at hb;subst hb;simp only [eQ.at_];rw [hg.2]
theorem Ee (zs:List Int) (hn:zs.length≤4398046511104):
  FC Tryz.prog 22 [(1003,dk zs)] [o1 (.sl 1003 0 zs.length)] [] (.tup [.one (.val (I6 (ka zs))), .one (.val (I6 (ja zs)))]) []:=by
 have hI:=jS zs zs.length rfl hn
 refine bj (nt:=30) Tryz.func22 rfl rfl (by simp) fun w0 ω0=> ?_
 cases hd:cw zs with
 | false=>
  rw [hd] at hI
  unfold ka ja
  rw [hd,if_neg (by simp),if_neg (by simp)]
  (refine ak (ah (aa rfl (ai rfl rfl) (aa rfl (ai rfl rfl) (ar (an (ak (ak (ah (aa rfl (aj rfl rfl) ?_)))))))));apply aa rfl;(apply au 54;exact aw hI ab rfl rfl ⟨rfl,ag⟩ ⟨⟨_,rfl, .inl rfl⟩,ag⟩ rfl rfl);refine aa rfl (bU rfl rfl) (ar (an ?_)))
  refine ax rfl (fun _=> ?_) (fun e=>by cases e)
  (refine ak (ah (aa rfl (ai rfl rfl) (aa rfl (ai rfl rfl) (ar (an (aS (aO ?_))))))))
  exact bN (.inl rfl) rfl (.tmp rfl) (.tmp rfl) trivial trivial
 | true=>
  rw [hd] at hI
  have h4:=c7 hd
  have hA:=ly zs zs.length rfl h4
  have hC:=(se zs zs.length (cB zs) rfl h4 (fM h4)).nm [(1003,1003),(2000,13)] (by kernel_rfl)
  have hC:FC Tryz.prog 69 [(1003,dk zs)] [o1 (.sl 1003 0 zs.length),vv (I6 (cB zs))] [(13,rF (comps zs (cB zs)))] (o1 (.sl 13 0 (comps zs (cB zs)).length)) []:=hC
  unfold ka ja
  rw [hd,if_pos rfl,if_pos rfl]
  have hlab:∀k,k < (comps zs (cB zs)).length→nz (dz (comps zs (cB zs)) k).2:=fun k hk=>ln hd hk
  have hnp:(comps zs (cB zs)).length≤5:=by
   have h1:=iO (comps zs (cB zs));have h2:=(jE zs (cB zs)).sum;omega
  generalize comps zs (cB zs)=ps at *
  generalize hN:ps.length=N at *
  have hmx:=oq ps
  rw [hN] at hmx
  (refine ak (ah (aa rfl (ai rfl rfl) (aa rfl (ai rfl rfl) (ar (an (ak (ak (ah (aa rfl (aj rfl rfl) ?_)))))))));apply aa rfl;(first | (apply au 54;exact aw hI ab rfl rfl ⟨rfl,ag⟩ ⟨⟨_,rfl, .inl rfl⟩,ag⟩ rfl rfl) | (apply au 57;exact aw hA ab rfl rfl ⟨rfl,ag⟩ ⟨⟨_,rfl, .inl rfl⟩,ag⟩ rfl rfl) | (apply au 69;exact bg hC ab rfl rfl ⟨rfl,rfl,ag⟩ ⟨⟨_,rfl, .inl rfl⟩,ag⟩ rfl rfl rfl));refine aa rfl (bU rfl rfl) (ar (an ?_)))
  refine ax rfl (fun e=>by cases e) (fun _=> ?_)
  (refine aE (an (ak (ah (aa rfl (ai rfl rfl) (ar (an (ak (ak (ah (aa rfl (aj rfl rfl) (aa rfl (aj rfl rfl) ?_)))))))))));apply aa rfl;(first | (apply au 57;exact aw hA ab rfl rfl ⟨rfl,ag⟩ ⟨⟨_,rfl, .inl rfl⟩,ag⟩ rfl rfl) | (apply au 69;exact bg hC ab rfl rfl ⟨rfl,rfl,ag⟩ ⟨⟨_,rfl, .inl rfl⟩,ag⟩ rfl rfl rfl));apply aa rfl;(first | (apply au 57;exact aw hA ab rfl rfl ⟨rfl,ag⟩ ⟨⟨_,rfl, .inl rfl⟩,ag⟩ rfl rfl) | (apply au 69;exact bg hC ab rfl rfl ⟨rfl,rfl,ag⟩ ⟨⟨_,rfl, .inl rfl⟩,ag⟩ rfl rfl rfl));apply aa rfl;exact bw rfl rfl rfl ab;refine aa rfl (aj rfl rfl) (ar (an (aB ?_))))
  refine bz (fun j:Nat=>St.of [(4,vv (I6 (eC ps j:Nat))),(13,o1 (.sl 13 0 N)),(14,vv (I6 N)),(15,vv (I6 j))] [(13,rF ps)]) (fun j=>j≤N) (fun j=>N - j) 0 (Nat.zero_le _) (Wk.of ⟨rfl,rfl,rfl,rfl,ag⟩ ⟨rfl,ag⟩ trivial) ?_
  rintro j hj
  (refine ak (ah (aa rfl (aG rfl rfl rfl rfl) (ar (an (ak ?_))))))
  refine bK rfl (fun hlt=> ?_) (fun hlt=> ?_)
  ·have hjN:j < N:=by omega
   have hjp:j < ps.length:=by omega
   have hL:=hlab j hjN
   have hk:=lJ hjp
   have hk2:=xU ps j
   have hagg:=sh hjp 13
   have hcel:=(kO hjp).2
   have hix:N * 2≤(fS ps).length:=Nat.le_of_eq hmx.symm
   obtain ⟨labs,hlb⟩:∃labs,(dz ps j).2=labs:=⟨_,rfl⟩
   rw [hlb] at hL hk hagg hcel
   have hm4:=hL.1
   have hAf:=(BY (fS ps) ((dz ps j).1:Int) (j * 2 + 1) labs.length labs hcel rfl hm4).nm [(1000,13)] (by kernel_rfl)
   have hAf:FC Tryz.prog 71 [(13,dT (fS ps))] [.s (.agg [.val (I6 ((dz ps j).1:Int)), .esl 13 (j * 2 + 1) 0 labs.length])] [] (vv (.bool (zk labs))) []:=hAf
   rcases vC (fS ps) ((dz ps j).1:Int) (j * 2 + 1) labs.length labs hcel rfl hm4 with ⟨hnil,hD⟩ | ⟨hsome,hD⟩
   ·have hD:=hD.nm [(1000,13)] (by kernel_rfl)
    have hD:FC Tryz.prog 70 [(13,dT (fS ps))] [.s (.agg [.val (I6 ((dz ps j).1:Int)), .esl 13 (j * 2 + 1) 0 labs.length])] [] (vv (.slice none 0 0)) []:=hD
    unfold pj at hk
    rw [if_pos (by rw [hnil];rfl)] at hk
    (refine aE (an (ak (aB (ak (ah ?_)))));apply aa rfl;(first | exact dL (k:=2) (j:=j) rfl rfl rfl rfl rfl ab rfl hjN hix ae rfl | exact cG (k:=2) rfl rfl rfl rfl rfl ab hagg | (apply au 70;exact aw hD ab rfl rfl ⟨⟨.inl rfl, .inl rfl,ag⟩,ag⟩ ⟨⟨_,rfl, .inr rfl⟩,ag⟩ rfl rfl) | exact fF (b:=false) rfl ab rfl (.inr ⟨rfl,rfl⟩));apply aa rfl;(first | exact dL (k:=2) (j:=j) rfl rfl rfl rfl rfl ab rfl hjN hix ae rfl | exact cG (k:=2) rfl rfl rfl rfl rfl ab hagg | (apply au 70;exact aw hD ab rfl rfl ⟨⟨.inl rfl, .inl rfl,ag⟩,ag⟩ ⟨⟨_,rfl, .inr rfl⟩,ag⟩ rfl rfl) | exact fF (b:=false) rfl ab rfl (.inr ⟨rfl,rfl⟩));apply aa rfl;exact cL [I6 0, .slice none 0 0] rfl ab;apply aa rfl;exact br rfl rfl rfl rfl rfl rfl rfl rfl ab rfl;refine ar (an (aB (ak (ah (aa rfl (aU rfl rfl rfl rfl rfl rfl ab) ?_)))));apply aa rfl;(first | exact dL (k:=2) (j:=j) rfl rfl rfl rfl rfl ab rfl hjN hix ae rfl | exact cG (k:=2) rfl rfl rfl rfl rfl ab hagg | (apply au 70;exact aw hD ab rfl rfl ⟨⟨.inl rfl, .inl rfl,ag⟩,ag⟩ ⟨⟨_,rfl, .inr rfl⟩,ag⟩ rfl rfl) | exact fF (b:=false) rfl ab rfl (.inr ⟨rfl,rfl⟩));apply aa rfl;(first | exact dL (k:=2) (j:=j) rfl rfl rfl rfl rfl ab rfl hjN hix ae rfl | exact cG (k:=2) rfl rfl rfl rfl rfl ab hagg | (apply au 70;exact aw hD ab rfl rfl ⟨⟨.inl rfl, .inl rfl,ag⟩,ag⟩ ⟨⟨_,rfl, .inr rfl⟩,ag⟩ rfl rfl) | exact fF (b:=false) rfl ab rfl (.inr ⟨rfl,rfl⟩));refine aa rfl (ai rfl rfl) (ar (an ?_)))
    refine ax rfl (fun e=>by cases e) (fun _=> ?_)
    (refine ak (ah (aa rfl (aU rfl rfl rfl rfl rfl rfl ab) ?_));apply aa rfl;(apply au 71;exact aw hAf ab rfl rfl ⟨⟨.inl rfl, .inl rfl,ag⟩,ag⟩ ⟨⟨_,rfl, .inr rfl⟩,ag⟩ rfl rfl);refine aa rfl (ai rfl rfl) (ar (an ?_)))
    refine ax rfl (fun h1=> ?_) (fun h1=> ?_)
    ·have hv:eC ps (j + 1)=max (eC ps j) 1:=by
      rw [hk,h1]
      by_cases e:eC ps j=2
      ·rw [e,if_neg (by simp)];rfl
      ·rw [if_pos ⟨rfl,e⟩];omega
     (refine ah (aa rfl (aj rfl rfl) ?_);apply aa rfl;(exact pk (n:=1) rfl rfl rfl);refine aa rfl (ai rfl rfl) (ar (aM (aM (an (ah ?_)))));apply aa rfl;exact aP rfl rfl rfl bA;refine aa rfl (aj rfl rfl) (ar ?_))
     exact aW (j + 1) ae ae (Wk.of ⟨congrArg (fun k:Nat=>some (vv (I6 (k:Int)))) hv.symm,rfl,rfl,rfl,ag⟩ ⟨rfl,ag⟩ trivial)
    ·have hv:eC ps (j + 1)=2:=by rw [hk,h1,if_neg (by simp)]
     (refine ah (aa rfl (ai rfl rfl) (ar (aM (aM (an (ah ?_))))));apply aa rfl;exact aP rfl rfl rfl bA;refine aa rfl (aj rfl rfl) (ar ?_))
     exact aW (j + 1) ae ae (Wk.of ⟨congrArg (fun k:Nat=>some (vv (I6 (k:Int)))) hv.symm,rfl,rfl,rfl,ag⟩ ⟨rfl,ag⟩ trivial)
   ·have hD:=hD.nm [(1000,13),(2100,21)] (by kernel_rfl)
    have hD:FC Tryz.prog 70 [(13,dT (fS ps))] [.s (.agg [.val (I6 ((dz ps j).1:Int)), .esl 13 (j * 2 + 1) 0 labs.length])] [(21,bG (dA labs))] (o1 (.sl 21 0 (labs.length + 1))) []:=hD
    have hv:eC ps (j + 1)=eC ps j:=by rw [hk];unfold pj;rw [if_neg ae]
    have hd0:0 < (aL (dA labs)).length:=by rw [bc];omega
    (refine aE (an (ak (aB (ak (ah ?_)))));apply aa rfl;(first | exact dL (k:=2) (j:=j) rfl rfl rfl rfl rfl ab rfl hjN hix ae rfl | exact cG (k:=2) rfl rfl rfl rfl rfl ab hagg | (apply au 70;exact bg hD ab rfl rfl ⟨⟨.inl rfl, .inl rfl,ag⟩,ag⟩ ⟨⟨_,rfl, .inr rfl⟩,ag⟩ rfl rfl rfl) | exact eD (b:=true) rfl ab rfl rfl hd0 (.inr ⟨rfl,rfl⟩));apply aa rfl;(first | exact dL (k:=2) (j:=j) rfl rfl rfl rfl rfl ab rfl hjN hix ae rfl | exact cG (k:=2) rfl rfl rfl rfl rfl ab hagg | (apply au 70;exact bg hD ab rfl rfl ⟨⟨.inl rfl, .inl rfl,ag⟩,ag⟩ ⟨⟨_,rfl, .inr rfl⟩,ag⟩ rfl rfl rfl) | exact eD (b:=true) rfl ab rfl rfl hd0 (.inr ⟨rfl,rfl⟩));apply aa rfl;exact cL [I6 0, .slice none 0 0] rfl ab;apply aa rfl;exact br rfl rfl rfl rfl rfl rfl rfl rfl ab rfl;refine ar (an (aB (ak (ah (aa rfl (aU rfl rfl rfl rfl rfl rfl ab) ?_)))));apply aa rfl;(first | exact dL (k:=2) (j:=j) rfl rfl rfl rfl rfl ab rfl hjN hix ae rfl | exact cG (k:=2) rfl rfl rfl rfl rfl ab hagg | (apply au 70;exact bg hD ab rfl rfl ⟨⟨.inl rfl, .inl rfl,ag⟩,ag⟩ ⟨⟨_,rfl, .inr rfl⟩,ag⟩ rfl rfl rfl) | exact eD (b:=true) rfl ab rfl rfl hd0 (.inr ⟨rfl,rfl⟩));apply aa rfl;(first | exact dL (k:=2) (j:=j) rfl rfl rfl rfl rfl ab rfl hjN hix ae rfl | exact cG (k:=2) rfl rfl rfl rfl rfl ab hagg | (apply au 70;exact bg hD ab rfl rfl ⟨⟨.inl rfl, .inl rfl,ag⟩,ag⟩ ⟨⟨_,rfl, .inr rfl⟩,ag⟩ rfl rfl rfl) | exact eD (b:=true) rfl ab rfl rfl hd0 (.inr ⟨rfl,rfl⟩));refine aa rfl (ai rfl rfl) (ar (an ?_)))
    refine ax rfl (fun _=> ?_) (fun e=>by cases e)
    (refine aE (aM (aM (an (ah ?_))));apply aa rfl;exact aP rfl rfl rfl bA;refine aa rfl (aj rfl rfl) (ar ?_))
    exact aW (j + 1) ae ae (Wk.of ⟨congrArg (fun k:Nat=>some (vv (I6 (k:Int)))) hv.symm,rfl,rfl,rfl,ag⟩ ⟨rfl,ag⟩ trivial)
  ·obtain rfl:j=N:=by omega
   (refine a7 (aA (aA (aT (an (ak (ah (aa rfl (aj rfl rfl) (aa rfl (ai rfl rfl) (aa rfl (ai rfl rfl) (ar (an ?_)))))))))));refine aS ?_)
   exact bN (.inl rfl) rfl (.tmp rfl) (.tmp rfl) trivial trivial
end Go.Proofs.YtekbhbcgoadciaaGreat
namespace Go.Proofs.YtekbhbcgoadciaaGreat
open Go.RowKit
theorem tU (ao:Option Addr) (n c:Nat) (zs:List Int) (w:World) (base:Nat) (h:Own w base 2 ao n c (zs.map (Value.int .i64))) (hn:n≤5):
  Calls Tryz.prog 159 #[.slice ao n c, .int .i64 0, .int .i64 n] w fun e w'=>e= .returned (.tuple #[])∧Own w' base 2 ao n c ((cJ zs).map (Value.int .i64))∧w.grownBy w' (bk ao):=by
 have hl:zs.length=n:=by have:=h.len;simpa using this
 have HL:=Lib.hid hl
 clear hl
 go_enter Tryz.func159,Tryz.ntmps159
 go_wp2
 go_loopw [6] (fun i wr=>∃(k:Nat) (cur:List Int),1≤k∧(k≤n∨k=1)∧i= .int .i64 k∧cur.length=n∧cur.Perm zs∧(∀x y,x < y→y < k→aC cur x≤aC cur y)∧Own wr base 2 ao n c (cur.map (Value.int .i64))∧w.grownBy wr (bk ao)) (fun i _=>n + 1 - (intOf i).toNat)
 case atStart=>exact ⟨1,zs,Nat.le_refl _, .inr rfl,rfl,HL.out,List.Perm.refl _,fun x y h1 h2=>by omega,h,World.grownBy.refl _ _⟩
 case round=>
  obtain ⟨k,cur,hk1,hk,rfl,hcl,hcp,hca,ho,hg⟩:=hrel
  have HC:=Lib.hid hcl
  have HP:=Lib.hid hcp
  have HA:=Lib.hid hca
  have HO:=Lib.hid ho
  have HG:=Lib.hid hg
  clear hcl hcp hca ho hg
  by_cases hlt:k < n
  ·go_wp2_with fail
   go_loopw [7] (fun i wr=>∃(j:Nat) (cur:List Int),j≤k∧i= .int .i64 j∧cur.length=n∧cur.Perm zs∧J2 cur k j∧Own wr base 2 ao n c (cur.map (Value.int .i64))∧w.grownBy wr (bk ao)) (fun i _=>(intOf i).toNat)
   case atStart=>exact ⟨k,cur,Nat.le_refl _,rfl,HC.out,HP.out,fun x y h1 h2 h3=>HA.out x y h1 ae,HO.out,HG.out⟩
   case round=>
    clear HC HP HA HO HG
    obtain ⟨j,cur,hj,rfl,hcl,hcp,hca,ho,hg⟩:=hrel
    have HC:=Lib.hid hcl
    have HP:=Lib.hid hcp
    have HA:=Lib.hid hca
    have HO:=Lib.hid ho
    have HG:=Lib.hid hg
    clear hcl hcp hca ho hg
    by_cases hj0:0 < j
    ·obtain ⟨i,hij⟩:∃i,j=i + 1:=⟨j - 1,ae⟩
     obtain ⟨g,rfl, -,hgl, -, -, -⟩:=HO.out.form ae
     have hjn:j < n:=by omega
     have hin:i < n:=by omega
     have hc1:=kQ HO.out hjn
     have hc2:=kQ HO.out hin
     have hS:∀w',Below wr.heap.size wr w'→(w'.cell? ⟨g,j,none⟩=some (.int .i64 (aC cur j))∧w'.cell? ⟨g,i,none⟩=some (.int .i64 (aC cur i))):=fun w' hb=>⟨(hb.cell (p:=⟨g,j,none⟩) (World.block_lt_of_cell? wr _ hc1)).trans hc1,(hb.cell (p:=⟨g,i,none⟩) (World.block_lt_of_cell? wr _ hc2)).trans hc2⟩
     have HS:=Lib.hid hS
     clear hS
     have e1:((j:Int) - 1)=(i:Int):=by omega
     have e2:IntKind.i64.wrap (i:Int)=(i:Int):=IntWalk.i64_in _ ae
     have HIJ:=Lib.hid hij
     clear hij
     by_cases hlt2:aC cur j < aC cur i
     ·have HLT:=Lib.hid hlt2
      clear hlt2 hc1 hc2
      go_wp2_with fail
      (refine jD (by kernel_rfl) (by kernel_rfl) ?_;(repeat (first | go_big_quiet_skip | (go_big_quiet_want;first | (go_big_quiet_op;go_big_quiet_on) | (apply pJ;(· (intro _ hw;have f1:=(HS.out _ hw).1;have f0:=(HS.out _ hw).2;go_simp;exact rfl));go_simp;go_big_quiet_on) | (apply nC;(· (intro _ _;go_simp;exact ⟨rfl,rfl⟩));(· (intro _ hw;go_at_call 165;refine (yD _ _ _).mono ?_;rintro e w2 ⟨rfl,rfl⟩;rw [decide_eq_true HLT.out];exact ⟨rfl,hw⟩));go_simp;go_big_quiet_on))));refine wpQuiet_nil ?_;intro wq bq)
      have b3:=bq
      clear bq
      have ho:=HO.out.below b3
      have hg3:=gh HG.out (jG b3 (bk (some ⟨g,0,none⟩)))
      have HG3:=Lib.hid hg3
      have hc1:=kQ ho hjn
      have hc2:=kQ ho hin
      have hf1:=ho.1.frozenAt j
      have hf2:=ho.1.frozenAt i
      have ho1:Own wq.drew base 2 (some ⟨g,0,none⟩) n c (cur.map (Value.int .i64)):=ho
      obtain ⟨s1,t1⟩:=ho1.stored j (.int .i64 (aC cur i))
      obtain ⟨s2,t2⟩:=s1.stored i (.int .i64 (aC cur j))
      have S2:=Lib.hid s2
      have T1:=Lib.hid t1
      have T2:=Lib.hid t2
      clear s1 t1 s2 t2 ho1 ho hg3 b3
      go_wp2_with fail
      go_region
      go_wp2
      go_roundw
      case rel=>
       have hcl:=HC.out
       obtain rfl:=HIJ.out
       refine ⟨i,(cur.set (i + 1) (aC cur i)).set i (aC cur (i + 1)),ae,by go_num,by simp [HC.out],(swap_perm cur i ae).trans HP.out,D2 ae ae HA.out HLT.out, ?_, ?_⟩
       ·rw [List.map_set,List.map_set];exact S2.out
       ·exact gh HG3.out (gh (⟨rfl,rfl,rfl,Nat.le_refl _,fun _ _ _=>rfl⟩:wq.grownBy wq.drew _) (gh T1.out T2.out))
      case measure=>have:=HIJ.out;simp [intOf];omega
     ·have HLT:=Lib.hid hlt2
      have hd:decide (aC cur j < aC cur i)=false:=decide_eq_false hlt2
      have HD:=Lib.hid hd
      clear hlt2 hc1 hc2 hd
      go_wp2_with fail
      (refine jD (by kernel_rfl) (by kernel_rfl) ?_;(repeat (first | go_big_quiet_skip | (go_big_quiet_want;first | (go_big_quiet_op;go_big_quiet_on) | (apply pJ;(· (intro _ hw;have f1:=(HS.out _ hw).1;have f0:=(HS.out _ hw).2;go_simp;exact rfl));go_simp;go_big_quiet_on) | (apply nC;(· (intro _ _;go_simp;exact ⟨rfl,rfl⟩));(· (intro _ hw;go_at_call 165;refine (yD _ _ _).mono ?_;rintro e w2 ⟨rfl,rfl⟩;rw [HD.out];exact ⟨rfl,hw⟩));go_simp;go_big_quiet_on))));refine wpQuiet_nil ?_;intro wq bq)
      go_wp2_with fail
      go_roundw
      case rel=>
       have hs:=yP HA.out (.inr (by have h1:=HIJ.out;have h2:=HLT.out;rw [show j - 1=i by omega];omega))
       exact ⟨k + 1,cur,ae,ae,by go_num,HC.out,HP.out,fun x y h1 h2=>hs x y h1 ae,HO.out.below bq,gh HG.out (jG bq _)⟩
      case measure=>simp [intOf];omega
    ·obtain rfl:j=0:=by omega
     go_wp2_with fail
     (refine jD (by kernel_rfl) (by kernel_rfl) ?_;(repeat (first | go_big_quiet_skip | (go_big_quiet_want;first | (go_big_quiet_op;go_big_quiet_on) | (apply pJ;(· (intro _ hw;skip;go_simp;exact rfl));go_simp;go_big_quiet_on) | (apply nC;(· (intro _ _;go_simp;exact ⟨rfl,rfl⟩));(· (intro _ hw;fail));go_simp;go_big_quiet_on))));refine wpQuiet_nil ?_;intro wq bq)
     go_wp2_with fail
     go_roundw
     case rel=>
      have hs:=yP HA.out (.inl rfl)
      exact ⟨k + 1,cur,ae,ae,by go_num,HC.out,HP.out,fun x y h1 h2=>hs x y h1 ae,HO.out.below bq,gh HG.out (jG bq _)⟩
     case measure=>simp [intOf];omega
  ·go_wp2
   go_end0
   have hs:cur=cJ zs:=nF HP.out (vm fun x y h1 h2=>HA.out x y h1 (by have:=HC.out;omega))
   exact ⟨rfl,by rw [←hs];exact HO.out,HG.out⟩
end Go.Proofs.YtekbhbcgoadciaaGreat
namespace Go.Proofs.YtekbhbcgoadciaaGreat
open Go.RowKit
theorem Fi (ao:Option Addr) (n c:Nat) (r:Int) (zs:List Int) (w:World) (base:Nat) (h:Own w base 2 ao n c (zs.map (Value.int .i64))) (hn:n≤5):
  Calls Tryz.prog 140 #[.slice ao n c, .int .i64 0, .int .i64 n, .int .i64 r] w fun e w'=>e= .returned (.tuple #[])∧Own w' base 2 ao n c ((cJ zs).map (Value.int .i64))∧w.grownBy w' (bk ao):=by
 have h12:(n:Int)≤12:=by omega
 go_enter Tryz.func140,Tryz.ntmps140
 go_wp2_with fail
 go_loopw [1,2] (fun x y wr=>x= .int .i64 0∧y= .int .i64 n∧wr=w) (fun _ _ _=>0)
 case atStart=>exact ⟨rfl,rfl,rfl⟩
 case round=>
  obtain ⟨rfl,rfl,rfl⟩:=hrel
  go_wp2_with fail
  refine (tU ao n c zs _ base h hn).mono ?_
  rintro e w1 ⟨rfl,ho,hg⟩
  go_wp2
  refine bodyPost_ret (results_none rfl _ _ _) rfl ?_
  exact ⟨rfl,ho,hg⟩
theorem ED (ao:Option Addr) (n c:Nat) (zs:List Int) (w:World) (base:Nat) (h:Own w base 2 ao n c (zs.map (Value.int .i64))) (hn:n≤5):
  Calls Tryz.prog 114 #[.slice ao n c] w fun e w'=>e= .returned (.tuple #[])∧Own w' base 2 ao n c ((cJ zs).map (Value.int .i64))∧w.grownBy w' (bk ao):=by
 have hw:IntKind.u64.wrap (n:Int)=(n:Int):=by simp [IntKind.wrap,IntKind.bits,IntKind.signed];omega
 go_enter Tryz.func114,Tryz.ntmps114
 go_wp2_with fail
 refine (Fs n hn _).mono ?_
 rintro e w1 ⟨⟨r,rfl⟩,rfl⟩
 go_wp2_with fail
 refine (Fi ao n c r zs _ base h hn).mono ?_
 rintro e w1 ⟨rfl,ho,hg⟩
 go_wp2
 go_end0
 exact ⟨rfl,ho,hg⟩
end Go.Proofs.YtekbhbcgoadciaaGreat
namespace Go.Proofs.YtekbhbcgoadciaaGreat
open Go.RowKit
section
variable {P:Program} {nt:Nat} {S:St} {t:Nat} {ty:TypeId} {ps:String} {af:Array Edge} {gd:Option (Nat×Bool)} {x y:Operand}
theorem cR {T E n len m:Nat} {c:Ch} {zs ys:List Int} {b:A1} (ht:Nat.blt t nt=true) (hT:pN P T E 1=true) (hx:S.op x=some (o1 (.sl n 0 len))) (hc:S.ch n=some c) (hce:c=⟨true,E,1, .bR (aL zs)⟩) (hl:zs.length=len)
  (hy:S.op y=some (o1 b)) (hr:Reads S b m 1 (aL ys)) (hm:0 < m) (hb:len + m≤2199023255552):
  cu P nt ⟨some t, .call { callee:= .builtin .append,args:= #[x,y],argTypes:= #[T,T] },ty,ps,af,gd⟩ S ((S.new n ⟨true,E,1, .bR (aL (zs ++ ys))⟩).put t (o1 (.sl n 0 (len + m)))):=by
 have:=sw (P:=P) (nt:=nt) (ty:=ty) (ps:=ps) (af:=af) (gd:=gd) (vs:=aL zs) (news:=aL ys) (m:=m) (k:=1) ht hT rfl hx hc hce rfl (by rw [bc];omega) hy hr hm (by intro v hv;simp [aL] at hv;obtain ⟨a,_,rfl⟩:=hv;rfl) hb
 rw [Nat.zero_mul,List.drop_zero,show aL zs ++ aL ys=aL (zs ++ ys) by simp [aL]] at this
 exact this
end
abbrev D9 (zs:List Int) (mask:Nat):AV:= .tup [.one (.sl 2200 0 (fO (comps zs mask) (comps zs mask).length).length), .one (.val (I6 (wv zs mask:Nat))), .one (.val (.bool true))]
theorem mN (zs:List Int) (L mask:Nat) (hL:zs.length=L) (hd:cw zs=true) (hmk:mask < 1000) (hf:gO zs mask=true):
  FC Tryz.prog 65 [(1003,dk zs)] [o1 (.sl 1003 0 L),vv (I6 mask)] [(2200,bG (eV zs mask))] (D9 zs mask) []:=by
 have h4:L≤4:=by have:=c7 hd;omega
 have hC:=(se zs L mask hL h4 hmk).nm [(1003,1003),(2000,15)] (by kernel_rfl)
 have hC:FC Tryz.prog 69 [(1003,dk zs)] [o1 (.sl 1003 0 L),vv (I6 mask)] [(15,rF (comps zs mask))] (o1 (.sl 15 0 (comps zs mask).length)) []:=hC
 have hlab:∀k,k < (comps zs mask).length→nz (dz (comps zs mask) k).2:=fun k hk=>ln hd hk
 have hcs:iy (comps zs mask)≤5:=by have:=(jE zs mask).sum;omega
 have hnp:(comps zs mask).length≤5:=by have:=iO (comps zs mask);omega
 have hfa:=(ri (ps:=comps zs mask) (comps zs mask).length (Nat.le_refl _)).1 (by simpa [gO] using hf)
 have hcl:∀j,j≤(comps zs mask).length→(fO (comps zs mask) j).length≤5:=fun j hj=>Nat.le_trans (lU hlab j hj) (Nat.le_trans (mX _ _) hcs)
 have hml:=fun j hj h5=>Bs hlab (j:=j) hj h5
 unfold eV D9 wv
 refine bj (nt:=42) Tryz.func65 rfl rfl (by simp) fun w0 ω0=> ?_
 generalize comps zs mask=ps at *
 generalize hN:ps.length=N at *
 have hmx:=oq ps
 rw [hN] at hmx
 (refine ak (ah (aa rfl (ai rfl rfl) (aa rfl (ai rfl rfl) (aa rfl (ai rfl rfl) (ar (an (ak (ah (aa rfl (ai rfl rfl) (ar (an ?_)))))))))));refine ak (ah (aa rfl (ai rfl rfl) (ar (an (ak (ak (ah (aa rfl (aj rfl rfl) (aa rfl (aj rfl rfl) ?_)))))))));apply aa rfl;(apply au 69;exact bg hC ab rfl rfl ⟨rfl,rfl,ag⟩ ⟨⟨_,rfl, .inl rfl⟩,ag⟩ rfl rfl rfl);apply aa rfl;exact bw rfl rfl rfl ab;refine aa rfl (aj rfl rfl) (ar (an (aB ?_))))
 refine bz (fun j:Nat=>St.of [(7,o1 (.sl 2200 0 (fO ps j).length)),(8,vv (I6 (lG ps j:Nat))),(15,o1 (.sl 15 0 N)),(16,vv (I6 N)),(17,vv (I6 j))] [(15,rF ps),(2200,bG (fO ps j))]) (fun j=>j≤N) (fun j=>N - j) 0 (Nat.zero_le _) (Wk.trans (nq (t:=7) (n:=2200) (k:=1) (E:=2) (d:= .bR (aL [])) rfl rfl) (Wk.of ⟨rfl,rfl,rfl,rfl,rfl,ag⟩ ⟨rfl,rfl,ag⟩ trivial)) ?_
 rintro j hj
 (refine ak (ah (aa rfl (aG rfl rfl rfl rfl) (ar (an (ak ?_))))))
 refine bK rfl (fun hlt=> ?_) (fun hlt=> ?_)
 ·have hjN:j < N:=by omega
  have hjp:j < ps.length:=by omega
  have hL:=hlab j hjN
  have hne:=hfa j hjN
  have hagg:=sh hjp 15
  have hcel:=(kO hjp).2
  have hix:N * 2≤(fS ps).length:=Nat.le_of_eq hmx.symm
  have hcat:=kL hjp
  have hmul:=pU hjp
  have hc5:=hcl (j + 1) ae
  have hm1:=hml j hj ae
  have hm2:=hml (j + 1) ae ae
  generalize (dz ps j).2=labs at *
  have hm4:=hL.1
  rcases vC (fS ps) ((dz ps j).1:Int) (j * 2 + 1) labs.length labs hcel rfl hm4 with ⟨hnil,hD⟩ | ⟨hsome,hD⟩
  ·exact absurd (by rw [hnil];rfl) hne
  have hD:=hD.nm [(1000,15),(2100,22)] (by kernel_rfl)
  have hD:FC Tryz.prog 70 [(15,dT (fS ps))] [.s (.agg [.val (I6 ((dz ps j).1:Int)), .esl 15 (j * 2 + 1) 0 labs.length])] [(22,bG (dA labs))] (o1 (.sl 22 0 (labs.length + 1))) []:=hD
  have hMx:=(A3 (dA labs) (labs.length + 1) hsome ae ae (fun i hi=>xD hL i ae)).nm [(1005,22)] (by kernel_rfl)
  have htop:=yl hL hne
  rw [hsome] at htop
  have hMx:FC Tryz.prog 80 [(22,oW (dA labs))] [o1 (.sl 22 0 (labs.length + 1))] [] (vv (I6 (aC (dA labs) (labs.length + 1 - 1)))) []:=hMx
  rw [htop] at hMx
  have htp:=xj hL hne
  have htl:=wc hL
  have hG:=El (lG ps j) (mY labs) ae ae
  have hgp:=xr (m:=lG ps j) htp
  rw [←AK] at hmul
  have hw:IntKind.i64.wrap (((lG ps j:Nat):Int) * ((mY labs / Nat.gcd (lG ps j) (mY labs):Nat):Int))=((lG ps (j + 1):Nat):Int):=by
   rw [←Int.natCast_mul,←hmul];exact IntWalk.i64_in _ ae
  have hd0:0 < (aL (dA labs)).length:=by rw [bc];omega
  have hdl:(aL (dA labs)).length=labs.length + 1:=by rw [bc];exact hsome
  have hcl1:(fO ps j).length + (labs.length + 1)=(fO ps (j + 1)).length:=by rw [hcat,List.length_append,hsome]
  have hcb:(fO ps j).length + (labs.length + 1)≤2199023255552:=by omega
  have ht1:mY labs < 1000000000000:=by omega
  (refine aE (an (ak (aB (ak (ah ?_)))));apply aa rfl;(first | exact dL (k:=2) (j:=j) rfl rfl rfl rfl rfl ab rfl hjN hix ae rfl | exact cG (k:=2) rfl rfl rfl rfl rfl ab hagg | (apply au 70;exact bg hD ab rfl rfl ⟨⟨.inl rfl, .inl rfl,ag⟩,ag⟩ ⟨⟨_,rfl, .inr rfl⟩,ag⟩ rfl rfl rfl) | exact eD (b:=false) rfl ab rfl rfl hd0 (.inl ⟨rfl,rfl⟩));apply aa rfl;(first | exact dL (k:=2) (j:=j) rfl rfl rfl rfl rfl ab rfl hjN hix ae rfl | exact cG (k:=2) rfl rfl rfl rfl rfl ab hagg | (apply au 70;exact bg hD ab rfl rfl ⟨⟨.inl rfl, .inl rfl,ag⟩,ag⟩ ⟨⟨_,rfl, .inr rfl⟩,ag⟩ rfl rfl rfl) | exact eD (b:=false) rfl ab rfl rfl hd0 (.inl ⟨rfl,rfl⟩));apply aa rfl;exact cL [I6 0, .slice none 0 0] rfl ab;apply aa rfl;exact br rfl rfl rfl rfl rfl rfl rfl rfl ab rfl;refine ar (an (ak (ah (aa rfl (aU rfl rfl rfl rfl rfl rfl ab) ?_))));apply aa rfl;(first | exact dL (k:=2) (j:=j) rfl rfl rfl rfl rfl ab rfl hjN hix ae rfl | exact cG (k:=2) rfl rfl rfl rfl rfl ab hagg | (apply au 70;exact bg hD ab rfl rfl ⟨⟨.inl rfl, .inl rfl,ag⟩,ag⟩ ⟨⟨_,rfl, .inr rfl⟩,ag⟩ rfl rfl rfl) | exact eD (b:=false) rfl ab rfl rfl hd0 (.inl ⟨rfl,rfl⟩));refine aa rfl (ai rfl rfl) (ar (an (ak (ak (ah (aa rfl (aj rfl rfl) ?_))))));apply aa rfl;(first | exact dL (k:=2) (j:=j) rfl rfl rfl rfl rfl ab rfl hjN hix ae rfl | exact cG (k:=2) rfl rfl rfl rfl rfl ab hagg | (apply au 70;exact bg hD ab rfl rfl ⟨⟨.inl rfl, .inl rfl,ag⟩,ag⟩ ⟨⟨_,rfl, .inr rfl⟩,ag⟩ rfl rfl rfl) | exact eD (b:=false) rfl ab rfl rfl hd0 (.inl ⟨rfl,rfl⟩));refine ar (an ?_))
  refine ax rfl (fun e=>by cases e) (fun _=> ?_)
  (refine aE (an (ak (ah (aa rfl (aj rfl rfl) (aa rfl (aj rfl rfl) ?_)))));apply aa rfl;(first | exact cR (E:=2) rfl ab rfl rfl rfl rfl rfl (c5 rfl rfl rfl hdl) ae hcb | (apply au 80;exact aw hMx ab rfl rfl ⟨rfl,ag⟩ ⟨⟨_,rfl, .inr rfl⟩,ag⟩ rfl rfl) | (apply au 113;exact aw hG ab rfl rfl ⟨rfl,rfl,ag⟩ trivial rfl rfl) | exact fZ rfl rfl rfl hgp ht1 | exact dV rfl rfl rfl hw);refine aa rfl (ai rfl rfl) (ar (an (ak (ah (aa rfl (aj rfl rfl) ?_)))));apply aa rfl;(first | exact cR (E:=2) rfl ab rfl rfl rfl rfl rfl (c5 rfl rfl rfl hdl) ae hcb | (apply au 80;exact aw hMx ab rfl rfl ⟨rfl,ag⟩ ⟨⟨_,rfl, .inr rfl⟩,ag⟩ rfl rfl) | (apply au 113;exact aw hG ab rfl rfl ⟨rfl,rfl,ag⟩ trivial rfl rfl) | exact fZ rfl rfl rfl hgp ht1 | exact dV rfl rfl rfl hw);refine aa rfl (ai rfl rfl) (ar (an (ah (aa rfl (aj rfl rfl) (aa rfl (aj rfl rfl) (aa rfl (aj rfl rfl) (aa rfl (aj rfl rfl) ?_)))))));apply aa rfl;(first | exact cR (E:=2) rfl ab rfl rfl rfl rfl rfl (c5 rfl rfl rfl hdl) ae hcb | (apply au 80;exact aw hMx ab rfl rfl ⟨rfl,ag⟩ ⟨⟨_,rfl, .inr rfl⟩,ag⟩ rfl rfl) | (apply au 113;exact aw hG ab rfl rfl ⟨rfl,rfl,ag⟩ trivial rfl rfl) | exact fZ rfl rfl rfl hgp ht1 | exact dV rfl rfl rfl hw);apply aa rfl;(first | exact cR (E:=2) rfl ab rfl rfl rfl rfl rfl (c5 rfl rfl rfl hdl) ae hcb | (apply au 80;exact aw hMx ab rfl rfl ⟨rfl,ag⟩ ⟨⟨_,rfl, .inr rfl⟩,ag⟩ rfl rfl) | (apply au 113;exact aw hG ab rfl rfl ⟨rfl,rfl,ag⟩ trivial rfl rfl) | exact fZ rfl rfl rfl hgp ht1 | exact dV rfl rfl rfl hw);apply aa rfl;(first | exact cR (E:=2) rfl ab rfl rfl rfl rfl rfl (c5 rfl rfl rfl hdl) ae hcb | (apply au 80;exact aw hMx ab rfl rfl ⟨rfl,ag⟩ ⟨⟨_,rfl, .inr rfl⟩,ag⟩ rfl rfl) | (apply au 113;exact aw hG ab rfl rfl ⟨rfl,rfl,ag⟩ trivial rfl rfl) | exact fZ rfl rfl rfl hgp ht1 | exact dV rfl rfl rfl hw);refine aa rfl (ai rfl rfl) (ar (aM (an (ah ?_))));apply aa rfl;exact aP rfl rfl rfl bA;refine aa rfl (aj rfl rfl) (ar ?_))
  exact aW (j + 1) ae ae (Wk.of ⟨congrArg (fun z:Nat=>some (o1 (.sl 2200 0 z))) hcl1,rfl,rfl,rfl,rfl,ag⟩ ⟨rfl,congrArg (fun z=>some (bG z)) hcat.symm,ag⟩ trivial)
 ·obtain rfl:j=N:=by omega
  have hc5:=hcl j (Nat.le_refl _)
  (refine a7 (aA (aA (aT (an (ak (ah (aa rfl (aj rfl rfl) ?_)))))));apply aa rfl;(apply au 114;exact oQ (zs:=fO ps j) (zs':=cJ (fO ps j)) rfl ab rfl rfl rfl (pr _) ae (fun ao c w hO=>ED ao _ c _ w 0 hO hc5));refine ar (an (ak (ah (aa rfl (aj rfl rfl) (aa rfl (aj rfl rfl) (aa rfl (ai rfl rfl) (aa rfl (ai rfl rfl) (aa rfl (ai rfl rfl) (ar (an (aS ?_))))))))))))
  exact kW (.inl rfl) rfl (.tmp rfl) (.tmp rfl) (.tmp rfl) ⟨rfl,ag⟩ trivial
abbrev J7:AV:= .tup [.one (.val (.slice none 0 0)), .one (.val (I6 0)), .one (.val (.bool false))]
theorem oU (zs:List Int) (L mask:Nat) (hL:zs.length=L) (hd:cw zs=true) (hmk:mask < 1000) (hf:gO zs mask=false):
  FC Tryz.prog 65 [(1003,dk zs)] [o1 (.sl 1003 0 L),vv (I6 mask)] [] J7 []:=by
 have h4:L≤4:=by have:=c7 hd;omega
 have hC:=(se zs L mask hL h4 hmk).nm [(1003,1003),(2000,15)] (by kernel_rfl)
 have hC:FC Tryz.prog 69 [(1003,dk zs)] [o1 (.sl 1003 0 L),vv (I6 mask)] [(15,rF (comps zs mask))] (o1 (.sl 15 0 (comps zs mask).length)) []:=hC
 have hlab:∀k,k < (comps zs mask).length→nz (dz (comps zs mask) k).2:=fun k hk=>ln hd hk
 have hcs:iy (comps zs mask)≤5:=by have:=(jE zs mask).sum;omega
 have hnp:(comps zs mask).length≤5:=by have:=iO (comps zs mask);omega
 have hfa:=ri (ps:=comps zs mask) (comps zs mask).length (Nat.le_refl _)
 have hfn:eC (comps zs mask) (comps zs mask).length≠0:=by simpa [gO] using hf
 have hcl:∀j,j≤(comps zs mask).length→(fO (comps zs mask) j).length≤5:=fun j hj=>Nat.le_trans (lU hlab j hj) (Nat.le_trans (mX _ _) hcs)
 have hml:=fun j hj h5=>Bs hlab (j:=j) hj h5
 refine bj (nt:=42) Tryz.func65 rfl rfl (by simp) fun w0 ω0=> ?_
 generalize comps zs mask=ps at *
 generalize hN:ps.length=N at *
 have hmx:=oq ps
 rw [hN] at hmx
 (refine ak (ah (aa rfl (ai rfl rfl) (aa rfl (ai rfl rfl) (aa rfl (ai rfl rfl) (ar (an (ak (ah (aa rfl (ai rfl rfl) (ar (an ?_)))))))))));refine ak (ah (aa rfl (ai rfl rfl) (ar (an (ak (ak (ah (aa rfl (aj rfl rfl) (aa rfl (aj rfl rfl) ?_)))))))));apply aa rfl;(apply au 69;exact bg hC ab rfl rfl ⟨rfl,rfl,ag⟩ ⟨⟨_,rfl, .inl rfl⟩,ag⟩ rfl rfl rfl);apply aa rfl;exact bw rfl rfl rfl ab;refine aa rfl (aj rfl rfl) (ar (an (aB ?_))))
 refine bz (fun j:Nat=>St.of [(7,o1 (.sl 2200 0 (fO ps j).length)),(8,vv (I6 (lG ps j:Nat))),(15,o1 (.sl 15 0 N)),(16,vv (I6 N)),(17,vv (I6 j))] [(15,rF ps),(2200,bG (fO ps j))]) (fun j=>j≤N∧∀k,k < j→(dA (dz ps k).2).length≠0) (fun j=>N - j) 0 ⟨Nat.zero_le _,fun k hk=>absurd hk ae⟩ (Wk.trans (nq (t:=7) (n:=2200) (k:=1) (E:=2) (d:= .bR (aL [])) rfl rfl) (Wk.of ⟨rfl,rfl,rfl,rfl,rfl,ag⟩ ⟨rfl,rfl,ag⟩ trivial)) ?_
 rintro j ⟨hj,hal⟩
 (refine ak (ah (aa rfl (aG rfl rfl rfl rfl) (ar (an (ak ?_))))))
 refine bK rfl (fun hlt=> ?_) (fun hlt=> ?_)
 ·have hjN:j < N:=by omega
  have hjp:j < ps.length:=by omega
  have hL:=hlab j hjN
  have hagg:=sh hjp 15
  have hcel:=(kO hjp).2
  have hix:N * 2≤(fS ps).length:=Nat.le_of_eq hmx.symm
  have hcat:=kL hjp
  have hmul:=pU hjp
  have hc5:=hcl (j + 1) ae
  have hm1:=hml j hj ae
  have hm2:=hml (j + 1) ae ae
  have hal':(dA (dz ps j).2).length≠0→∀k,k < j + 1→(dA (dz ps k).2).length≠0:=fun h1 k hk=>by
   by_cases e:k=j
   ·rw [e];exact h1
   ·exact hal k ae
  obtain ⟨labs,hlb⟩:∃labs,(dz ps j).2=labs:=⟨_,rfl⟩
  rw [hlb] at hL hagg hcel hcat hmul hal'
  have hm4:=hL.1
  rcases vC (fS ps) ((dz ps j).1:Int) (j * 2 + 1) labs.length labs hcel rfl hm4 with ⟨hnil,hD⟩ | ⟨hsome,hD⟩
  ·have hD:=hD.nm [(1000,15)] (by kernel_rfl)
   have hD:FC Tryz.prog 70 [(15,dT (fS ps))] [.s (.agg [.val (I6 ((dz ps j).1:Int)), .esl 15 (j * 2 + 1) 0 labs.length])] [] (vv (.slice none 0 0)) []:=hD
   (refine aE (an (ak (aB (ak (ah ?_)))));apply aa rfl;(first | exact dL (k:=2) (j:=j) rfl rfl rfl rfl rfl ab rfl hjN hix ae rfl | exact cG (k:=2) rfl rfl rfl rfl rfl ab hagg | (apply au 70;exact aw hD ab rfl rfl ⟨⟨.inl rfl, .inl rfl,ag⟩,ag⟩ ⟨⟨_,rfl, .inr rfl⟩,ag⟩ rfl rfl) | exact fF (b:=true) rfl ab rfl (.inl ⟨rfl,rfl⟩));apply aa rfl;(first | exact dL (k:=2) (j:=j) rfl rfl rfl rfl rfl ab rfl hjN hix ae rfl | exact cG (k:=2) rfl rfl rfl rfl rfl ab hagg | (apply au 70;exact aw hD ab rfl rfl ⟨⟨.inl rfl, .inl rfl,ag⟩,ag⟩ ⟨⟨_,rfl, .inr rfl⟩,ag⟩ rfl rfl) | exact fF (b:=true) rfl ab rfl (.inl ⟨rfl,rfl⟩));apply aa rfl;exact cL [I6 0, .slice none 0 0] rfl ab;apply aa rfl;exact br rfl rfl rfl rfl rfl rfl rfl rfl ab rfl;refine ar (an (ak (ah (aa rfl (aU rfl rfl rfl rfl rfl rfl ab) ?_))));apply aa rfl;(first | exact dL (k:=2) (j:=j) rfl rfl rfl rfl rfl ab rfl hjN hix ae rfl | exact cG (k:=2) rfl rfl rfl rfl rfl ab hagg | (apply au 70;exact aw hD ab rfl rfl ⟨⟨.inl rfl, .inl rfl,ag⟩,ag⟩ ⟨⟨_,rfl, .inr rfl⟩,ag⟩ rfl rfl) | exact fF (b:=true) rfl ab rfl (.inl ⟨rfl,rfl⟩));refine aa rfl (ai rfl rfl) (ar (an (ak (ak (ah (aa rfl (aj rfl rfl) ?_))))));apply aa rfl;(first | exact dL (k:=2) (j:=j) rfl rfl rfl rfl rfl ab rfl hjN hix ae rfl | exact cG (k:=2) rfl rfl rfl rfl rfl ab hagg | (apply au 70;exact aw hD ab rfl rfl ⟨⟨.inl rfl, .inl rfl,ag⟩,ag⟩ ⟨⟨_,rfl, .inr rfl⟩,ag⟩ rfl rfl) | exact fF (b:=true) rfl ab rfl (.inl ⟨rfl,rfl⟩));refine ar (an ?_))
   refine ax rfl (fun _=> ?_) (fun e=>by cases e)
   (refine ak (ah (aa rfl (ai rfl rfl) (aa rfl (ai rfl rfl) (aa rfl (ai rfl rfl) (ar (an (aS (aO (bt (aO (aO ?_)))))))))));refine bt (aO ?_))
   exact kW (.inl rfl) rfl (.tmp rfl) (.tmp rfl) (.tmp rfl) trivial trivial
  have hne:(dA labs).length≠0:=by omega
  have hD:=hD.nm [(1000,15),(2100,22)] (by kernel_rfl)
  have hD:FC Tryz.prog 70 [(15,dT (fS ps))] [.s (.agg [.val (I6 ((dz ps j).1:Int)), .esl 15 (j * 2 + 1) 0 labs.length])] [(22,bG (dA labs))] (o1 (.sl 22 0 (labs.length + 1))) []:=hD
  have hMx:=(A3 (dA labs) (labs.length + 1) hsome ae ae (fun i hi=>xD hL i ae)).nm [(1005,22)] (by kernel_rfl)
  have htop:=yl hL hne
  rw [hsome] at htop
  have hMx:FC Tryz.prog 80 [(22,oW (dA labs))] [o1 (.sl 22 0 (labs.length + 1))] [] (vv (I6 (aC (dA labs) (labs.length + 1 - 1)))) []:=hMx
  rw [htop] at hMx
  have htp:=xj hL hne
  have htl:=wc hL
  have hG:=El (lG ps j) (mY labs) ae ae
  have hgp:=xr (m:=lG ps j) htp
  rw [←AK] at hmul
  have hw:IntKind.i64.wrap (((lG ps j:Nat):Int) * ((mY labs / Nat.gcd (lG ps j) (mY labs):Nat):Int))=((lG ps (j + 1):Nat):Int):=by
   rw [←Int.natCast_mul,←hmul];exact IntWalk.i64_in _ ae
  have hd0:0 < (aL (dA labs)).length:=by rw [bc];omega
  have hdl:(aL (dA labs)).length=labs.length + 1:=by rw [bc];exact hsome
  have hcl1:(fO ps j).length + (labs.length + 1)=(fO ps (j + 1)).length:=by rw [hcat,List.length_append,hsome]
  have hcb:(fO ps j).length + (labs.length + 1)≤2199023255552:=by omega
  have ht1:mY labs < 1000000000000:=by omega
  (refine aE (an (ak (aB (ak (ah ?_)))));apply aa rfl;(first | exact dL (k:=2) (j:=j) rfl rfl rfl rfl rfl ab rfl hjN hix ae rfl | exact cG (k:=2) rfl rfl rfl rfl rfl ab hagg | (apply au 70;exact bg hD ab rfl rfl ⟨⟨.inl rfl, .inl rfl,ag⟩,ag⟩ ⟨⟨_,rfl, .inr rfl⟩,ag⟩ rfl rfl rfl) | exact eD (b:=false) rfl ab rfl rfl hd0 (.inl ⟨rfl,rfl⟩));apply aa rfl;(first | exact dL (k:=2) (j:=j) rfl rfl rfl rfl rfl ab rfl hjN hix ae rfl | exact cG (k:=2) rfl rfl rfl rfl rfl ab hagg | (apply au 70;exact bg hD ab rfl rfl ⟨⟨.inl rfl, .inl rfl,ag⟩,ag⟩ ⟨⟨_,rfl, .inr rfl⟩,ag⟩ rfl rfl rfl) | exact eD (b:=false) rfl ab rfl rfl hd0 (.inl ⟨rfl,rfl⟩));apply aa rfl;exact cL [I6 0, .slice none 0 0] rfl ab;apply aa rfl;exact br rfl rfl rfl rfl rfl rfl rfl rfl ab rfl;refine ar (an (ak (ah (aa rfl (aU rfl rfl rfl rfl rfl rfl ab) ?_))));apply aa rfl;(first | exact dL (k:=2) (j:=j) rfl rfl rfl rfl rfl ab rfl hjN hix ae rfl | exact cG (k:=2) rfl rfl rfl rfl rfl ab hagg | (apply au 70;exact bg hD ab rfl rfl ⟨⟨.inl rfl, .inl rfl,ag⟩,ag⟩ ⟨⟨_,rfl, .inr rfl⟩,ag⟩ rfl rfl rfl) | exact eD (b:=false) rfl ab rfl rfl hd0 (.inl ⟨rfl,rfl⟩));refine aa rfl (ai rfl rfl) (ar (an (ak (ak (ah (aa rfl (aj rfl rfl) ?_))))));apply aa rfl;(first | exact dL (k:=2) (j:=j) rfl rfl rfl rfl rfl ab rfl hjN hix ae rfl | exact cG (k:=2) rfl rfl rfl rfl rfl ab hagg | (apply au 70;exact bg hD ab rfl rfl ⟨⟨.inl rfl, .inl rfl,ag⟩,ag⟩ ⟨⟨_,rfl, .inr rfl⟩,ag⟩ rfl rfl rfl) | exact eD (b:=false) rfl ab rfl rfl hd0 (.inl ⟨rfl,rfl⟩));refine ar (an ?_))
  refine ax rfl (fun e=>by cases e) (fun _=> ?_)
  (refine aE (an (ak (ah (aa rfl (aj rfl rfl) (aa rfl (aj rfl rfl) ?_)))));apply aa rfl;(first | exact cR (E:=2) rfl ab rfl rfl rfl rfl rfl (c5 rfl rfl rfl hdl) ae hcb | (apply au 80;exact aw hMx ab rfl rfl ⟨rfl,ag⟩ ⟨⟨_,rfl, .inr rfl⟩,ag⟩ rfl rfl) | (apply au 113;exact aw hG ab rfl rfl ⟨rfl,rfl,ag⟩ trivial rfl rfl) | exact fZ rfl rfl rfl hgp ht1 | exact dV rfl rfl rfl hw);refine aa rfl (ai rfl rfl) (ar (an (ak (ah (aa rfl (aj rfl rfl) ?_)))));apply aa rfl;(first | exact cR (E:=2) rfl ab rfl rfl rfl rfl rfl (c5 rfl rfl rfl hdl) ae hcb | (apply au 80;exact aw hMx ab rfl rfl ⟨rfl,ag⟩ ⟨⟨_,rfl, .inr rfl⟩,ag⟩ rfl rfl) | (apply au 113;exact aw hG ab rfl rfl ⟨rfl,rfl,ag⟩ trivial rfl rfl) | exact fZ rfl rfl rfl hgp ht1 | exact dV rfl rfl rfl hw);refine aa rfl (ai rfl rfl) (ar (an (ah (aa rfl (aj rfl rfl) (aa rfl (aj rfl rfl) (aa rfl (aj rfl rfl) (aa rfl (aj rfl rfl) ?_)))))));apply aa rfl;(first | exact cR (E:=2) rfl ab rfl rfl rfl rfl rfl (c5 rfl rfl rfl hdl) ae hcb | (apply au 80;exact aw hMx ab rfl rfl ⟨rfl,ag⟩ ⟨⟨_,rfl, .inr rfl⟩,ag⟩ rfl rfl) | (apply au 113;exact aw hG ab rfl rfl ⟨rfl,rfl,ag⟩ trivial rfl rfl) | exact fZ rfl rfl rfl hgp ht1 | exact dV rfl rfl rfl hw);apply aa rfl;(first | exact cR (E:=2) rfl ab rfl rfl rfl rfl rfl (c5 rfl rfl rfl hdl) ae hcb | (apply au 80;exact aw hMx ab rfl rfl ⟨rfl,ag⟩ ⟨⟨_,rfl, .inr rfl⟩,ag⟩ rfl rfl) | (apply au 113;exact aw hG ab rfl rfl ⟨rfl,rfl,ag⟩ trivial rfl rfl) | exact fZ rfl rfl rfl hgp ht1 | exact dV rfl rfl rfl hw);apply aa rfl;(first | exact cR (E:=2) rfl ab rfl rfl rfl rfl rfl (c5 rfl rfl rfl hdl) ae hcb | (apply au 80;exact aw hMx ab rfl rfl ⟨rfl,ag⟩ ⟨⟨_,rfl, .inr rfl⟩,ag⟩ rfl rfl) | (apply au 113;exact aw hG ab rfl rfl ⟨rfl,rfl,ag⟩ trivial rfl rfl) | exact fZ rfl rfl rfl hgp ht1 | exact dV rfl rfl rfl hw);refine aa rfl (ai rfl rfl) (ar (aM (an (ah ?_))));apply aa rfl;exact aP rfl rfl rfl bA;refine aa rfl (aj rfl rfl) (ar ?_))
  exact aW (j + 1) ⟨ae,hal' hne⟩ ae (Wk.of ⟨congrArg (fun z:Nat=>some (o1 (.sl 2200 0 z))) hcl1,rfl,rfl,rfl,rfl,ag⟩ ⟨rfl,congrArg (fun z=>some (bG z)) hcat.symm,ag⟩ trivial)
 ·obtain rfl:j=N:=by omega
  exact absurd (hfa.2 hal) hfn
end Go.Proofs.YtekbhbcgoadciaaGreat
