/- The degrees of a component, the reference's: l12Either, l12Degrees, l12Affine. guards: -/
import Derived.Test.YtekbhbcgoadciaaGreatPart8
import Derived.Test.YtekbhbcgoadciaaGreatPart6
set_option maxRecDepth 100000
set_option maxHeartbeats 6400000
namespace Go.Proofs.YtekbhbcgoadciaaGreat
open Go.RowKit
theorem rev_eq (a b:List Int):(a.reverse == b)=(a == b.reverse):=by
 by_cases h:a.reverse=b
 ·subst h;simp
 ·have h2:a≠b.reverse:=fun e=>h (by rw [e,List.reverse_reverse])
  rw [beq_eq_false_iff_ne.2 h,beq_eq_false_iff_ne.2 h2]
theorem bM (zss:List (List Int)) (i m n:Nat) (labs list:List Int) (hi:i < zss.length) (hlb:bn zss i=labs) (hm:labs.length=m) (hn:list.length=n) (hm4:m≤1000000) (hn4:n≤1000000):
  FC Tryz.prog 142 [(1000,a6 zss),(1001,dk list)] [o1 (.esl 1000 i 0 m),o1 (.sl 1001 0 n)] [] (vv (.bool (bQ labs list))) []:=by
 have hlen:(bn zss i).length=m:=by rw [hlb];exact hm
 have hS:=Dd zss i n 2 list hi hn ae hn4
 have hT:=jP 10 zss i hi ae
 rw [hlen,hlb] at hS hT
 have hS2:=(DM labs.reverse list m n (by simpa using hm) hn hm4 hn4).nm [(1000,10),(1001,1001)] (by kernel_rfl)
 have hS2:FC Tryz.prog 170 [(10,dk labs.reverse),(1001,dk list)] [o1 (.sl 10 0 m),o1 (.sl 1001 0 n)] [] (vv (.bool (labs.reverse == list))) []:=hS2
 rw [rev_eq] at hS2
 refine bj (nt:=14) Tryz.func142 rfl rfl (by simp) fun w0 ω0=> ?_
 (refine ak (ah (aa rfl (ai rfl rfl) (ar (an (ak (ah (aa rfl (aj rfl rfl) (aa rfl (aj rfl rfl) ?_))))))));apply aa rfl;(apply au 170;exact aw hS ab rfl rfl ⟨rfl,rfl,ag⟩ ⟨⟨_,rfl, .inl rfl⟩,⟨_,rfl, .inl rfl⟩,ag⟩ rfl rfl);apply aa rfl;exact aj rfl rfl)
 refine bS 8 rfl (fun h1=> ?_) (fun h1=> ?_)
 ·have hv:bQ labs list=true:=by unfold bQ;rw [h1];rfl
  rw [hv]
  (apply aD rfl rfl rfl rfl rfl;apply aD rfl rfl rfl rfl rfl;apply aD rfl rfl rfl rfl rfl;apply aD rfl rfl rfl rfl rfl;refine aa rfl (bp rfl rfl rfl) (aa rfl (ai rfl rfl) (ar (an (aS ?_)))))
  exact bu (.inl rfl) rfl (.tmp rfl) trivial trivial
 ·have hv:bQ labs list=(labs == list.reverse):=by unfold bQ;rw [h1];rfl
  rw [hv]
  (apply aH rfl rfl rfl;exact aj rfl rfl;apply aH rfl rfl rfl;(first | (apply au 143;exact bg hT ab rfl rfl ⟨rfl,ag⟩ ⟨⟨_,rfl, .inl rfl⟩,ag⟩ rfl rfl rfl) | (apply au 170;exact aw hS2 ab rfl rfl ⟨rfl,rfl,ag⟩ ⟨⟨_,rfl, .inr rfl⟩,⟨_,rfl, .inl rfl⟩,ag⟩ rfl rfl));apply aH rfl rfl rfl;exact aj rfl rfl;apply aH rfl rfl rfl;(first | (apply au 143;exact bg hT ab rfl rfl ⟨rfl,ag⟩ ⟨⟨_,rfl, .inl rfl⟩,ag⟩ rfl rfl rfl) | (apply au 170;exact aw hS2 ab rfl rfl ⟨rfl,rfl,ag⟩ ⟨⟨_,rfl, .inr rfl⟩,⟨_,rfl, .inl rfl⟩,ag⟩ rfl rfl));refine aa rfl (bD rfl rfl rfl) (aa rfl (ai rfl rfl) (ar (an (aS ?_)))))
  exact bu (.inl rfl) rfl (.tmp rfl) trivial trivial
theorem Fb (zss:List (List Int)) (i m:Nat) (labs:List Int) (hi:i < zss.length) (hlb:bn zss i=labs) (hm:labs.length=m) (hm4:m≤4) (h0:m=0):
  FC Tryz.prog 116 [(1000,a6 zss)] [o1 (.esl 1000 i 0 m)] [(15,bG [2])] (o1 (.sl 15 0 1)) []:=by
 have hrow:(bV zss)[i]? =some (aL labs):=by rw [←hlb];exact cf hi
 have hilm:m≤(aL labs).length:=by rw [bc,hm];exact Nat.le_refl _
 refine bj (nt:=97) Tryz.func116 rfl rfl (by simp) fun w0 ω0=> ?_
 have hw1:IntKind.i64.wrap ((m:Int) + 1)=(m:Int) + 1:=IntWalk.i64_in _ ae
 (refine ak (ah (aa rfl (ai rfl rfl) (ar (an (ak (ah (aa rfl (aj rfl rfl) (aa rfl (bw rfl rfl rfl ab) ?_))))))));apply aa rfl;exact aP rfl rfl rfl hw1;refine aa rfl (ai rfl rfl) (ar (an (ak (aB (ak (ah (aa rfl (aj rfl rfl) (aa rfl (aG rfl rfl rfl rfl) (aa rfl (ai rfl rfl) (ar (an ?_))))))))))))
 refine ax rfl (fun _=> ?_) (fun e=> ?_)
 ·(refine ak (ah ?_);apply aa rfl;(exact bW (E:=2) rfl ab rfl);refine aa rfl (ai rfl rfl) (ar (an (aS (bt (aO ?_))))))
  exact bu (.inl rfl) rfl (.tmp rfl) ⟨rfl,ag⟩ trivial
 ·exfalso;simp at e;omega
theorem Dj (zss:List (List Int)) (i m:Nat) (labs:List Int) (hi:i < zss.length) (hlb:bn zss i=labs) (hm:labs.length=m) (hm4:m≤4) (h0:m=1) (hp:0 < aC labs 0):
  FC Tryz.prog 116 [(1000,a6 zss)] [o1 (.esl 1000 i 0 m)] [(28,bG [2,aC labs 0])] (o1 (.sl 28 0 2)) []:=by
 have hrow:(bV zss)[i]? =some (aL labs):=by rw [←hlb];exact cf hi
 have hilm:m≤(aL labs).length:=by rw [bc,hm];exact Nat.le_refl _
 refine bj (nt:=97) Tryz.func116 rfl rfl (by simp) fun w0 ω0=> ?_
 have hgl:(aL labs)[0]? =some (I6 (aC labs 0)):=bl ae
 have hw1:IntKind.i64.wrap ((m:Int) + 1)=(m:Int) + 1:=IntWalk.i64_in _ ae
 (refine ak (ah (aa rfl (ai rfl rfl) (ar (an (ak (ah (aa rfl (aj rfl rfl) (aa rfl (bw rfl rfl rfl ab) ?_))))))));apply aa rfl;exact aP rfl rfl rfl hw1;refine aa rfl (ai rfl rfl) (ar (an (ak (aB (ak (ah (aa rfl (aj rfl rfl) (aa rfl (aG rfl rfl rfl rfl) (aa rfl (ai rfl rfl) (ar (an ?_))))))))))))
 refine ax rfl (fun e=> ?_) (fun _=> ?_)
 ·exfalso;simp at e;omega
 (refine ak (ah (aa rfl (aj rfl rfl) (aa rfl (aG rfl rfl rfl rfl) (aa rfl (aj rfl rfl) ?_)))))
 refine bS 19 rfl (fun _=> ?_) (fun e=> ?_)
 ·(apply aH rfl rfl rfl;exact aj rfl rfl;apply aH rfl rfl rfl;(first | exact bd (j:=0) rfl rfl rfl rfl rfl ab hrow rfl ae hilm | exact a5 rfl ab rfl rfl rfl hrow hgl);apply aH rfl rfl rfl;(first | exact bd (j:=0) rfl rfl rfl rfl rfl ab hrow rfl ae hilm | exact a5 rfl ab rfl rfl rfl hrow hgl);apply aH rfl rfl rfl;exact aG rfl rfl rfl rfl;refine aa rfl (bp rfl rfl rfl) (aa rfl (ai rfl rfl) (ar (an ?_))))
  refine ax rfl (fun _=> ?_) (fun e=> ?_)
  ·(refine ak (ah (aa rfl (aj rfl rfl) ?_));apply aa rfl;(first | exact bd (j:=0) rfl rfl rfl rfl rfl ab hrow rfl ae hilm | exact a5 rfl ab rfl rfl rfl hrow hgl);apply aa rfl;(first | exact bd (j:=0) rfl rfl rfl rfl rfl ab hrow rfl ae hilm | exact a5 rfl ab rfl rfl rfl hrow hgl);apply aa rfl;(exact cN (E:=2) rfl ab rfl rfl);refine aa rfl (ai rfl rfl) (ar (an (aS (bt (aO ?_))))))
   exact bu (.inl rfl) rfl (.tmp rfl) ⟨rfl,ag⟩ trivial
  ·exfalso;simp at e;omega
 ·exfalso;simp at e;omega
theorem Df (zss:List (List Int)) (i m:Nat) (labs:List Int) (hi:i < zss.length) (hlb:bn zss i=labs) (hm:labs.length=m) (hm4:m≤4) (h0:0 < m) (hq:¬(m=1∧0 < aC labs 0)) (e1:bQ labs [3,5]=true):
  FC Tryz.prog 116 [(1000,a6 zss)] [o1 (.esl 1000 i 0 m)] [(33,bG [2,6,10])] (o1 (.sl 33 0 3)) []:=by
 have hrow:(bV zss)[i]? =some (aL labs):=by rw [←hlb];exact cf hi
 have hilm:m≤(aL labs).length:=by rw [bc,hm];exact Nat.le_refl _
 have hE1:=(bM zss i m 2 labs [3,5] hi hlb hm rfl ae ae).nm [(1000,1000),(1001,31)] (by kernel_rfl)
 have hE1:FC Tryz.prog 142 [(1000,a6 zss),(31,dk [3,5])] [o1 (.esl 1000 i 0 m),o1 (.sl 31 0 2)] [] (vv (.bool (bQ labs [3,5]))) []:=hE1
 rw [e1] at hE1
 refine bj (nt:=97) Tryz.func116 rfl rfl (by simp) fun w0 ω0=> ?_
 have hw1:IntKind.i64.wrap ((m:Int) + 1)=(m:Int) + 1:=IntWalk.i64_in _ ae
 (refine ak (ah (aa rfl (ai rfl rfl) (ar (an (ak (ah (aa rfl (aj rfl rfl) (aa rfl (bw rfl rfl rfl ab) ?_))))))));apply aa rfl;exact aP rfl rfl rfl hw1;refine aa rfl (ai rfl rfl) (ar (an (ak (aB (ak (ah (aa rfl (aj rfl rfl) (aa rfl (aG rfl rfl rfl rfl) (aa rfl (ai rfl rfl) (ar (an ?_))))))))))))
 refine ax rfl (fun e=> ?_) (fun _=> ?_)
 ·exfalso;simp at e;omega
 (repeat (first | refine ak ?_ | refine an ?_ | refine aE ?_ | refine aB ?_ | refine aM ?_ | refine a7 ?_ | refine aT ?_ | refine cQ rfl ?_ | refine aA ?_))
 refine cW (St.of [(0,o1 (.esl 1000 i 0 m)),(3,vv (I6 ((m:Int) + 1))),(16,vv (.bool false))] [(1000,a6 zss)]) ?_ ?_
 ·refine ah ?_
  (refine aa rfl (aj rfl rfl) (aa rfl (aG rfl rfl rfl rfl) (aa rfl (aj rfl rfl) ?_)))
  refine bS 19 rfl (fun e1=> ?_) (fun e1=> ?_)
  ·have e1:m=1:=by simp at e1;omega
   have hg2:¬aC labs 0 > 0:=fun h=>hq ⟨e1,h⟩
   have hgl:(aL labs)[0]? =some (I6 (aC labs 0)):=bl ae
   have hbf:eB .i64 .gtr (aC labs 0) 0=some (.bool false):=by simp [eB];omega
   (apply aH rfl rfl rfl;exact aj rfl rfl;apply aH rfl rfl rfl;(first | exact aG rfl rfl rfl hbf | exact bd (j:=0) rfl rfl rfl rfl rfl ab hrow rfl ae hilm | exact a5 rfl ab rfl rfl rfl hrow hgl);apply aH rfl rfl rfl;(first | exact aG rfl rfl rfl hbf | exact bd (j:=0) rfl rfl rfl rfl rfl ab hrow rfl ae hilm | exact a5 rfl ab rfl rfl rfl hrow hgl);apply aH rfl rfl rfl;(first | exact aG rfl rfl rfl hbf | exact bd (j:=0) rfl rfl rfl rfl rfl ab hrow rfl ae hilm | exact a5 rfl ab rfl rfl rfl hrow hgl);refine aa rfl (bp rfl rfl rfl) (aa rfl (ai rfl rfl) (ar ?_)))
   exact aV (Wk.of ⟨rfl,rfl,rfl,ag⟩ ⟨rfl,ag⟩ trivial)
  ·(apply aD rfl rfl rfl rfl rfl;apply aD rfl rfl rfl rfl rfl;apply aD rfl rfl rfl rfl rfl;apply aD rfl rfl rfl rfl rfl;refine aa rfl (bD rfl rfl rfl) (aa rfl (ai rfl rfl) (ar ?_)))
   exact aV (Wk.of ⟨rfl,rfl,rfl,ag⟩ ⟨rfl,ag⟩ trivial)
 (refine an ?_)
 refine ax rfl (fun e=>by cases e) (fun _=> ?_)
 (refine ak (ah (aa rfl (aj rfl rfl) ?_));apply aa rfl;(exact cN (E:=2) rfl ab rfl rfl);apply aa rfl;(first | (apply au 142;exact aw hE1 ab rfl rfl ⟨rfl,rfl,ag⟩ ⟨⟨_,rfl, .inl rfl⟩,⟨_,rfl, .inr rfl⟩,ag⟩ rfl rfl) | exact aX (E:=2) rfl ab rfl rfl rfl | exact aY (E:=2) rfl ab rfl rfl rfl rfl);refine aa rfl (ai rfl rfl) (ar (an ?_)))
 refine ax rfl (fun _=> ?_) (fun e=>by cases e)
 (refine ak (ah ?_);apply aa rfl;(first | exact aX (E:=2) rfl ab rfl rfl rfl | exact aY (E:=2) rfl ab rfl rfl rfl rfl);refine aa rfl (ai rfl rfl) (ar (an (aS (bt (aO ?_))))))
 exact bu (.inl rfl) rfl (.tmp rfl) ⟨rfl,ag⟩ trivial
theorem DF (zss:List (List Int)) (i m:Nat) (labs:List Int) (hi:i < zss.length) (hlb:bn zss i=labs) (hm:labs.length=m) (hm4:m≤4) (h0:0 < m) (hq:¬(m=1∧0 < aC labs 0)) (e1:bQ labs [3,5]=false) (e2:bQ labs [3,3,5]=true):
  FC Tryz.prog 116 [(1000,a6 zss)] [o1 (.esl 1000 i 0 m)] [(38,bG [2,12,20,30])] (o1 (.sl 38 0 4)) []:=by
 have hrow:(bV zss)[i]? =some (aL labs):=by rw [←hlb];exact cf hi
 have hilm:m≤(aL labs).length:=by rw [bc,hm];exact Nat.le_refl _
 have hE1:=(bM zss i m 2 labs [3,5] hi hlb hm rfl ae ae).nm [(1000,1000),(1001,31)] (by kernel_rfl)
 have hE1:FC Tryz.prog 142 [(1000,a6 zss),(31,dk [3,5])] [o1 (.esl 1000 i 0 m),o1 (.sl 31 0 2)] [] (vv (.bool (bQ labs [3,5]))) []:=hE1
 rw [e1] at hE1
 have hE2:=(bM zss i m 3 labs [3,3,5] hi hlb hm rfl ae ae).nm [(1000,1000),(1001,36)] (by kernel_rfl)
 have hE2:FC Tryz.prog 142 [(1000,a6 zss),(36,dk [3,3,5])] [o1 (.esl 1000 i 0 m),o1 (.sl 36 0 3)] [] (vv (.bool (bQ labs [3,3,5]))) []:=hE2
 rw [e2] at hE2
 refine bj (nt:=97) Tryz.func116 rfl rfl (by simp) fun w0 ω0=> ?_
 have hw1:IntKind.i64.wrap ((m:Int) + 1)=(m:Int) + 1:=IntWalk.i64_in _ ae
 (refine ak (ah (aa rfl (ai rfl rfl) (ar (an (ak (ah (aa rfl (aj rfl rfl) (aa rfl (bw rfl rfl rfl ab) ?_))))))));apply aa rfl;exact aP rfl rfl rfl hw1;refine aa rfl (ai rfl rfl) (ar (an (ak (aB (ak (ah (aa rfl (aj rfl rfl) (aa rfl (aG rfl rfl rfl rfl) (aa rfl (ai rfl rfl) (ar (an ?_))))))))))))
 refine ax rfl (fun e=> ?_) (fun _=> ?_)
 ·exfalso;simp at e;omega
 (repeat (first | refine ak ?_ | refine an ?_ | refine aE ?_ | refine aB ?_ | refine aM ?_ | refine a7 ?_ | refine aT ?_ | refine cQ rfl ?_ | refine aA ?_))
 refine cW (St.of [(0,o1 (.esl 1000 i 0 m)),(3,vv (I6 ((m:Int) + 1))),(16,vv (.bool false))] [(1000,a6 zss)]) ?_ ?_
 ·refine ah ?_
  (refine aa rfl (aj rfl rfl) (aa rfl (aG rfl rfl rfl rfl) (aa rfl (aj rfl rfl) ?_)))
  refine bS 19 rfl (fun e1=> ?_) (fun e1=> ?_)
  ·have e1:m=1:=by simp at e1;omega
   have hg2:¬aC labs 0 > 0:=fun h=>hq ⟨e1,h⟩
   have hgl:(aL labs)[0]? =some (I6 (aC labs 0)):=bl ae
   have hbf:eB .i64 .gtr (aC labs 0) 0=some (.bool false):=by simp [eB];omega
   (apply aH rfl rfl rfl;exact aj rfl rfl;apply aH rfl rfl rfl;(first | exact aG rfl rfl rfl hbf | exact bd (j:=0) rfl rfl rfl rfl rfl ab hrow rfl ae hilm | exact a5 rfl ab rfl rfl rfl hrow hgl);apply aH rfl rfl rfl;(first | exact aG rfl rfl rfl hbf | exact bd (j:=0) rfl rfl rfl rfl rfl ab hrow rfl ae hilm | exact a5 rfl ab rfl rfl rfl hrow hgl);apply aH rfl rfl rfl;(first | exact aG rfl rfl rfl hbf | exact bd (j:=0) rfl rfl rfl rfl rfl ab hrow rfl ae hilm | exact a5 rfl ab rfl rfl rfl hrow hgl);refine aa rfl (bp rfl rfl rfl) (aa rfl (ai rfl rfl) (ar ?_)))
   exact aV (Wk.of ⟨rfl,rfl,rfl,ag⟩ ⟨rfl,ag⟩ trivial)
  ·(apply aD rfl rfl rfl rfl rfl;apply aD rfl rfl rfl rfl rfl;apply aD rfl rfl rfl rfl rfl;apply aD rfl rfl rfl rfl rfl;refine aa rfl (bD rfl rfl rfl) (aa rfl (ai rfl rfl) (ar ?_)))
   exact aV (Wk.of ⟨rfl,rfl,rfl,ag⟩ ⟨rfl,ag⟩ trivial)
 (refine an ?_)
 refine ax rfl (fun e=>by cases e) (fun _=> ?_)
 (refine ak (ah (aa rfl (aj rfl rfl) ?_));apply aa rfl;(exact cN (E:=2) rfl ab rfl rfl);apply aa rfl;(first | (apply au 142;exact aw hE1 ab rfl rfl ⟨rfl,rfl,ag⟩ ⟨⟨_,rfl, .inl rfl⟩,⟨_,rfl, .inr rfl⟩,ag⟩ rfl rfl) | exact aX (E:=2) rfl ab rfl rfl rfl | exact aY (E:=2) rfl ab rfl rfl rfl rfl);refine aa rfl (ai rfl rfl) (ar (an ?_)))
 refine ax rfl (fun e=>by cases e) (fun _=> ?_)
 (refine ak (ah (aa rfl (aj rfl rfl) ?_));apply aa rfl;(first | (apply au 142;exact aw hE2 ab rfl rfl ⟨rfl,rfl,ag⟩ ⟨⟨_,rfl, .inl rfl⟩,⟨_,rfl, .inr rfl⟩,ag⟩ rfl rfl) | exact aX (E:=2) rfl ab rfl rfl rfl | exact aY (E:=2) rfl ab rfl rfl rfl rfl);apply aa rfl;(first | (apply au 142;exact aw hE2 ab rfl rfl ⟨rfl,rfl,ag⟩ ⟨⟨_,rfl, .inl rfl⟩,⟨_,rfl, .inr rfl⟩,ag⟩ rfl rfl) | exact aX (E:=2) rfl ab rfl rfl rfl | exact aY (E:=2) rfl ab rfl rfl rfl rfl);refine aa rfl (ai rfl rfl) (ar (an ?_)))
 refine ax rfl (fun _=> ?_) (fun e=>by cases e)
 (refine ak (ah ?_);apply aa rfl;(first | exact aX (E:=2) rfl ab rfl rfl rfl | exact aY (E:=2) rfl ab rfl rfl rfl rfl);refine aa rfl (ai rfl rfl) (ar (an (aS (bt (aO ?_))))))
 exact bu (.inl rfl) rfl (.tmp rfl) ⟨rfl,ag⟩ trivial
theorem DC (zss:List (List Int)) (i m:Nat) (labs:List Int) (hi:i < zss.length) (hlb:bn zss i=labs) (hm:labs.length=m) (hm4:m≤4) (h0:0 < m) (hq:¬(m=1∧0 < aC labs 0)) (e1:bQ labs [3,5]=false) (e2:bQ labs [3,3,5]=false) (e3:bQ labs [3,4,3]=true):
  FC Tryz.prog 116 [(1000,a6 zss)] [o1 (.esl 1000 i 0 m)] [(43,bG [2,6,8,12])] (o1 (.sl 43 0 4)) []:=by
 have hrow:(bV zss)[i]? =some (aL labs):=by rw [←hlb];exact cf hi
 have hilm:m≤(aL labs).length:=by rw [bc,hm];exact Nat.le_refl _
 have hE1:=(bM zss i m 2 labs [3,5] hi hlb hm rfl ae ae).nm [(1000,1000),(1001,31)] (by kernel_rfl)
 have hE1:FC Tryz.prog 142 [(1000,a6 zss),(31,dk [3,5])] [o1 (.esl 1000 i 0 m),o1 (.sl 31 0 2)] [] (vv (.bool (bQ labs [3,5]))) []:=hE1
 rw [e1] at hE1
 have hE2:=(bM zss i m 3 labs [3,3,5] hi hlb hm rfl ae ae).nm [(1000,1000),(1001,36)] (by kernel_rfl)
 have hE2:FC Tryz.prog 142 [(1000,a6 zss),(36,dk [3,3,5])] [o1 (.esl 1000 i 0 m),o1 (.sl 36 0 3)] [] (vv (.bool (bQ labs [3,3,5]))) []:=hE2
 rw [e2] at hE2
 have hE3:=(bM zss i m 3 labs [3,4,3] hi hlb hm rfl ae ae).nm [(1000,1000),(1001,41)] (by kernel_rfl)
 have hE3:FC Tryz.prog 142 [(1000,a6 zss),(41,dk [3,4,3])] [o1 (.esl 1000 i 0 m),o1 (.sl 41 0 3)] [] (vv (.bool (bQ labs [3,4,3]))) []:=hE3
 rw [e3] at hE3
 refine bj (nt:=97) Tryz.func116 rfl rfl (by simp) fun w0 ω0=> ?_
 have hw1:IntKind.i64.wrap ((m:Int) + 1)=(m:Int) + 1:=IntWalk.i64_in _ ae
 (refine ak (ah (aa rfl (ai rfl rfl) (ar (an (ak (ah (aa rfl (aj rfl rfl) (aa rfl (bw rfl rfl rfl ab) ?_))))))));apply aa rfl;exact aP rfl rfl rfl hw1;refine aa rfl (ai rfl rfl) (ar (an (ak (aB (ak (ah (aa rfl (aj rfl rfl) (aa rfl (aG rfl rfl rfl rfl) (aa rfl (ai rfl rfl) (ar (an ?_))))))))))))
 refine ax rfl (fun e=> ?_) (fun _=> ?_)
 ·exfalso;simp at e;omega
 (repeat (first | refine ak ?_ | refine an ?_ | refine aE ?_ | refine aB ?_ | refine aM ?_ | refine a7 ?_ | refine aT ?_ | refine cQ rfl ?_ | refine aA ?_))
 refine cW (St.of [(0,o1 (.esl 1000 i 0 m)),(3,vv (I6 ((m:Int) + 1))),(16,vv (.bool false))] [(1000,a6 zss)]) ?_ ?_
 ·refine ah ?_
  (refine aa rfl (aj rfl rfl) (aa rfl (aG rfl rfl rfl rfl) (aa rfl (aj rfl rfl) ?_)))
  refine bS 19 rfl (fun e1=> ?_) (fun e1=> ?_)
  ·have e1:m=1:=by simp at e1;omega
   have hg2:¬aC labs 0 > 0:=fun h=>hq ⟨e1,h⟩
   have hgl:(aL labs)[0]? =some (I6 (aC labs 0)):=bl ae
   have hbf:eB .i64 .gtr (aC labs 0) 0=some (.bool false):=by simp [eB];omega
   (apply aH rfl rfl rfl;exact aj rfl rfl;apply aH rfl rfl rfl;(first | exact aG rfl rfl rfl hbf | exact bd (j:=0) rfl rfl rfl rfl rfl ab hrow rfl ae hilm | exact a5 rfl ab rfl rfl rfl hrow hgl);apply aH rfl rfl rfl;(first | exact aG rfl rfl rfl hbf | exact bd (j:=0) rfl rfl rfl rfl rfl ab hrow rfl ae hilm | exact a5 rfl ab rfl rfl rfl hrow hgl);apply aH rfl rfl rfl;(first | exact aG rfl rfl rfl hbf | exact bd (j:=0) rfl rfl rfl rfl rfl ab hrow rfl ae hilm | exact a5 rfl ab rfl rfl rfl hrow hgl);refine aa rfl (bp rfl rfl rfl) (aa rfl (ai rfl rfl) (ar ?_)))
   exact aV (Wk.of ⟨rfl,rfl,rfl,ag⟩ ⟨rfl,ag⟩ trivial)
  ·(apply aD rfl rfl rfl rfl rfl;apply aD rfl rfl rfl rfl rfl;apply aD rfl rfl rfl rfl rfl;apply aD rfl rfl rfl rfl rfl;refine aa rfl (bD rfl rfl rfl) (aa rfl (ai rfl rfl) (ar ?_)))
   exact aV (Wk.of ⟨rfl,rfl,rfl,ag⟩ ⟨rfl,ag⟩ trivial)
 (refine an ?_)
 refine ax rfl (fun e=>by cases e) (fun _=> ?_)
 (refine ak (ah (aa rfl (aj rfl rfl) ?_));apply aa rfl;(exact cN (E:=2) rfl ab rfl rfl);apply aa rfl;(first | (apply au 142;exact aw hE1 ab rfl rfl ⟨rfl,rfl,ag⟩ ⟨⟨_,rfl, .inl rfl⟩,⟨_,rfl, .inr rfl⟩,ag⟩ rfl rfl) | exact aX (E:=2) rfl ab rfl rfl rfl | exact aY (E:=2) rfl ab rfl rfl rfl rfl);refine aa rfl (ai rfl rfl) (ar (an ?_)))
 refine ax rfl (fun e=>by cases e) (fun _=> ?_)
 (refine ak (ah (aa rfl (aj rfl rfl) ?_));apply aa rfl;(first | (apply au 142;exact aw hE2 ab rfl rfl ⟨rfl,rfl,ag⟩ ⟨⟨_,rfl, .inl rfl⟩,⟨_,rfl, .inr rfl⟩,ag⟩ rfl rfl) | exact aX (E:=2) rfl ab rfl rfl rfl | exact aY (E:=2) rfl ab rfl rfl rfl rfl);apply aa rfl;(first | (apply au 142;exact aw hE2 ab rfl rfl ⟨rfl,rfl,ag⟩ ⟨⟨_,rfl, .inl rfl⟩,⟨_,rfl, .inr rfl⟩,ag⟩ rfl rfl) | exact aX (E:=2) rfl ab rfl rfl rfl | exact aY (E:=2) rfl ab rfl rfl rfl rfl);refine aa rfl (ai rfl rfl) (ar (an ?_)))
 refine ax rfl (fun e=>by cases e) (fun _=> ?_)
 (refine ak (ah (aa rfl (aj rfl rfl) ?_));apply aa rfl;(first | (apply au 142;exact aw hE3 ab rfl rfl ⟨rfl,rfl,ag⟩ ⟨⟨_,rfl, .inl rfl⟩,⟨_,rfl, .inr rfl⟩,ag⟩ rfl rfl) | exact aX (E:=2) rfl ab rfl rfl rfl | exact aY (E:=2) rfl ab rfl rfl rfl rfl);apply aa rfl;(first | (apply au 142;exact aw hE3 ab rfl rfl ⟨rfl,rfl,ag⟩ ⟨⟨_,rfl, .inl rfl⟩,⟨_,rfl, .inr rfl⟩,ag⟩ rfl rfl) | exact aX (E:=2) rfl ab rfl rfl rfl | exact aY (E:=2) rfl ab rfl rfl rfl rfl);refine aa rfl (ai rfl rfl) (ar (an ?_)))
 refine ax rfl (fun _=> ?_) (fun e=>by cases e)
 (refine ak (ah ?_);apply aa rfl;(first | exact aX (E:=2) rfl ab rfl rfl rfl | exact aY (E:=2) rfl ab rfl rfl rfl rfl);refine aa rfl (ai rfl rfl) (ar (an (aS (bt (aO ?_))))))
 exact bu (.inl rfl) rfl (.tmp rfl) ⟨rfl,ag⟩ trivial
theorem E9 (zss:List (List Int)) (i m:Nat) (labs:List Int) (hi:i < zss.length) (hlb:bn zss i=labs) (hm:labs.length=m) (hm4:m≤4) (h0:0 < m) (hq:¬(m=1∧0 < aC labs 0)) (e1:bQ labs [3,5]=false) (e2:bQ labs [3,3,5]=false) (e3:bQ labs [3,4,3]=false) (h1:m=1):
  FC Tryz.prog 116 [(1000,a6 zss)] [o1 (.esl 1000 i 0 m)] [] (vv (.slice none 0 0)) []:=by
 have hrow:(bV zss)[i]? =some (aL labs):=by rw [←hlb];exact cf hi
 have hilm:m≤(aL labs).length:=by rw [bc,hm];exact Nat.le_refl _
 have hE1:=(bM zss i m 2 labs [3,5] hi hlb hm rfl ae ae).nm [(1000,1000),(1001,31)] (by kernel_rfl)
 have hE1:FC Tryz.prog 142 [(1000,a6 zss),(31,dk [3,5])] [o1 (.esl 1000 i 0 m),o1 (.sl 31 0 2)] [] (vv (.bool (bQ labs [3,5]))) []:=hE1
 rw [e1] at hE1
 have hE2:=(bM zss i m 3 labs [3,3,5] hi hlb hm rfl ae ae).nm [(1000,1000),(1001,36)] (by kernel_rfl)
 have hE2:FC Tryz.prog 142 [(1000,a6 zss),(36,dk [3,3,5])] [o1 (.esl 1000 i 0 m),o1 (.sl 36 0 3)] [] (vv (.bool (bQ labs [3,3,5]))) []:=hE2
 rw [e2] at hE2
 have hE3:=(bM zss i m 3 labs [3,4,3] hi hlb hm rfl ae ae).nm [(1000,1000),(1001,41)] (by kernel_rfl)
 have hE3:FC Tryz.prog 142 [(1000,a6 zss),(41,dk [3,4,3])] [o1 (.esl 1000 i 0 m),o1 (.sl 41 0 3)] [] (vv (.bool (bQ labs [3,4,3]))) []:=hE3
 rw [e3] at hE3
 refine bj (nt:=97) Tryz.func116 rfl rfl (by simp) fun w0 ω0=> ?_
 have hw1:IntKind.i64.wrap ((m:Int) + 1)=(m:Int) + 1:=IntWalk.i64_in _ ae
 (refine ak (ah (aa rfl (ai rfl rfl) (ar (an (ak (ah (aa rfl (aj rfl rfl) (aa rfl (bw rfl rfl rfl ab) ?_))))))));apply aa rfl;exact aP rfl rfl rfl hw1;refine aa rfl (ai rfl rfl) (ar (an (ak (aB (ak (ah (aa rfl (aj rfl rfl) (aa rfl (aG rfl rfl rfl rfl) (aa rfl (ai rfl rfl) (ar (an ?_))))))))))))
 refine ax rfl (fun e=> ?_) (fun _=> ?_)
 ·exfalso;simp at e;omega
 (repeat (first | refine ak ?_ | refine an ?_ | refine aE ?_ | refine aB ?_ | refine aM ?_ | refine a7 ?_ | refine aT ?_ | refine cQ rfl ?_ | refine aA ?_))
 refine cW (St.of [(0,o1 (.esl 1000 i 0 m)),(3,vv (I6 ((m:Int) + 1))),(16,vv (.bool false))] [(1000,a6 zss)]) ?_ ?_
 ·refine ah ?_
  (refine aa rfl (aj rfl rfl) (aa rfl (aG rfl rfl rfl rfl) (aa rfl (aj rfl rfl) ?_)))
  refine bS 19 rfl (fun e1=> ?_) (fun e1=> ?_)
  ·have e1:m=1:=by simp at e1;omega
   have hg2:¬aC labs 0 > 0:=fun h=>hq ⟨e1,h⟩
   have hgl:(aL labs)[0]? =some (I6 (aC labs 0)):=bl ae
   have hbf:eB .i64 .gtr (aC labs 0) 0=some (.bool false):=by simp [eB];omega
   (apply aH rfl rfl rfl;exact aj rfl rfl;apply aH rfl rfl rfl;(first | exact aG rfl rfl rfl hbf | exact bd (j:=0) rfl rfl rfl rfl rfl ab hrow rfl ae hilm | exact a5 rfl ab rfl rfl rfl hrow hgl);apply aH rfl rfl rfl;(first | exact aG rfl rfl rfl hbf | exact bd (j:=0) rfl rfl rfl rfl rfl ab hrow rfl ae hilm | exact a5 rfl ab rfl rfl rfl hrow hgl);apply aH rfl rfl rfl;(first | exact aG rfl rfl rfl hbf | exact bd (j:=0) rfl rfl rfl rfl rfl ab hrow rfl ae hilm | exact a5 rfl ab rfl rfl rfl hrow hgl);refine aa rfl (bp rfl rfl rfl) (aa rfl (ai rfl rfl) (ar ?_)))
   exact aV (Wk.of ⟨rfl,rfl,rfl,ag⟩ ⟨rfl,ag⟩ trivial)
  ·(apply aD rfl rfl rfl rfl rfl;apply aD rfl rfl rfl rfl rfl;apply aD rfl rfl rfl rfl rfl;apply aD rfl rfl rfl rfl rfl;refine aa rfl (bD rfl rfl rfl) (aa rfl (ai rfl rfl) (ar ?_)))
   exact aV (Wk.of ⟨rfl,rfl,rfl,ag⟩ ⟨rfl,ag⟩ trivial)
 (refine an ?_)
 refine ax rfl (fun e=>by cases e) (fun _=> ?_)
 (refine ak (ah (aa rfl (aj rfl rfl) ?_));apply aa rfl;(exact cN (E:=2) rfl ab rfl rfl);apply aa rfl;(first | (apply au 142;exact aw hE1 ab rfl rfl ⟨rfl,rfl,ag⟩ ⟨⟨_,rfl, .inl rfl⟩,⟨_,rfl, .inr rfl⟩,ag⟩ rfl rfl) | exact aX (E:=2) rfl ab rfl rfl rfl | exact aY (E:=2) rfl ab rfl rfl rfl rfl);refine aa rfl (ai rfl rfl) (ar (an ?_)))
 refine ax rfl (fun e=>by cases e) (fun _=> ?_)
 (refine ak (ah (aa rfl (aj rfl rfl) ?_));apply aa rfl;(first | (apply au 142;exact aw hE2 ab rfl rfl ⟨rfl,rfl,ag⟩ ⟨⟨_,rfl, .inl rfl⟩,⟨_,rfl, .inr rfl⟩,ag⟩ rfl rfl) | exact aX (E:=2) rfl ab rfl rfl rfl | exact aY (E:=2) rfl ab rfl rfl rfl rfl);apply aa rfl;(first | (apply au 142;exact aw hE2 ab rfl rfl ⟨rfl,rfl,ag⟩ ⟨⟨_,rfl, .inl rfl⟩,⟨_,rfl, .inr rfl⟩,ag⟩ rfl rfl) | exact aX (E:=2) rfl ab rfl rfl rfl | exact aY (E:=2) rfl ab rfl rfl rfl rfl);refine aa rfl (ai rfl rfl) (ar (an ?_)))
 refine ax rfl (fun e=>by cases e) (fun _=> ?_)
 (refine ak (ah (aa rfl (aj rfl rfl) ?_));apply aa rfl;(first | (apply au 142;exact aw hE3 ab rfl rfl ⟨rfl,rfl,ag⟩ ⟨⟨_,rfl, .inl rfl⟩,⟨_,rfl, .inr rfl⟩,ag⟩ rfl rfl) | exact aX (E:=2) rfl ab rfl rfl rfl | exact aY (E:=2) rfl ab rfl rfl rfl rfl);apply aa rfl;(first | (apply au 142;exact aw hE3 ab rfl rfl ⟨rfl,rfl,ag⟩ ⟨⟨_,rfl, .inl rfl⟩,⟨_,rfl, .inr rfl⟩,ag⟩ rfl rfl) | exact aX (E:=2) rfl ab rfl rfl rfl | exact aY (E:=2) rfl ab rfl rfl rfl rfl);refine aa rfl (ai rfl rfl) (ar (an ?_)))
 refine ax rfl (fun e=>by cases e) (fun _=> ?_)
 (refine aE (aM (an (ak (ak (ah (aa rfl (aj rfl rfl) (aa rfl (aG rfl rfl rfl rfl) (ar (an ?_))))))))))
 refine ax rfl (fun _=> ?_) (fun e=> ?_)
 ·(refine ak (ah (aa rfl (ai rfl rfl) (ar (an (aS (aO ?_)))))))
  exact bu (.inl rfl) rfl (.tmp rfl) trivial trivial
 ·exfalso;simp at e;omega
theorem jx {labs:List Int} (h:fE labs=true) {k:Nat} (hk:k < labs.length - 1):aC (ends labs) k=3:=by
 unfold fE at h
 have:=(List.all_eq_true.1 h) k (List.mem_range.2 hk)
 simpa using this
theorem ug {labs:List Int} (h:∀q,q < labs.length - 1→aC (ends labs) q=3):fE labs=true:=by
 unfold fE
 rw [List.all_eq_true]
 intro q hq
 have:=h q (List.mem_range.1 hq)
 simpa using this
theorem zt (zss:List (List Int)) (i m:Nat) (labs:List Int) (hi:i < zss.length) (hlb:bn zss i=labs) (hm:labs.length=m) (hm4:m≤4) (h0:0 < m) (hq:¬(m=1∧0 < aC labs 0)) (e1:bQ labs [3,5]=false) (e2:bQ labs [3,3,5]=false) (e3:bQ labs [3,4,3]=false) (h2:2≤m) (hA:aC labs 0=3) (ht:fE labs=false):
  FC Tryz.prog 116 [(1000,a6 zss)] [o1 (.esl 1000 i 0 m)] [] (vv (.slice none 0 0)) []:=by
 have hrow:(bV zss)[i]? =some (aL labs):=by rw [←hlb];exact cf hi
 have hilm:m≤(aL labs).length:=by rw [bc,hm];exact Nat.le_refl _
 have hE1:=(bM zss i m 2 labs [3,5] hi hlb hm rfl ae ae).nm [(1000,1000),(1001,31)] (by kernel_rfl)
 have hE1:FC Tryz.prog 142 [(1000,a6 zss),(31,dk [3,5])] [o1 (.esl 1000 i 0 m),o1 (.sl 31 0 2)] [] (vv (.bool (bQ labs [3,5]))) []:=hE1
 rw [e1] at hE1
 have hE2:=(bM zss i m 3 labs [3,3,5] hi hlb hm rfl ae ae).nm [(1000,1000),(1001,36)] (by kernel_rfl)
 have hE2:FC Tryz.prog 142 [(1000,a6 zss),(36,dk [3,3,5])] [o1 (.esl 1000 i 0 m),o1 (.sl 36 0 3)] [] (vv (.bool (bQ labs [3,3,5]))) []:=hE2
 rw [e2] at hE2
 have hE3:=(bM zss i m 3 labs [3,4,3] hi hlb hm rfl ae ae).nm [(1000,1000),(1001,41)] (by kernel_rfl)
 have hE3:FC Tryz.prog 142 [(1000,a6 zss),(41,dk [3,4,3])] [o1 (.esl 1000 i 0 m),o1 (.sl 41 0 3)] [] (vv (.bool (bQ labs [3,4,3]))) []:=hE3
 rw [e3] at hE3
 refine bj (nt:=97) Tryz.func116 rfl rfl (by simp) fun w0 ω0=> ?_
 have hgl:(aL labs)[0]? =some (I6 (aC labs 0)):=bl ae
 have hE:ends labs=labs:=by unfold ends;rw [if_pos hA]
 have hw1:IntKind.i64.wrap ((m:Int) + 1)=(m:Int) + 1:=IntWalk.i64_in _ ae
 (refine ak (ah (aa rfl (ai rfl rfl) (ar (an (ak (ah (aa rfl (aj rfl rfl) (aa rfl (bw rfl rfl rfl ab) ?_))))))));apply aa rfl;exact aP rfl rfl rfl hw1;refine aa rfl (ai rfl rfl) (ar (an (ak (aB (ak (ah (aa rfl (aj rfl rfl) (aa rfl (aG rfl rfl rfl rfl) (aa rfl (ai rfl rfl) (ar (an ?_))))))))))))
 refine ax rfl (fun e=> ?_) (fun _=> ?_)
 ·exfalso;simp at e;omega
 (repeat (first | refine ak ?_ | refine an ?_ | refine aE ?_ | refine aB ?_ | refine aM ?_ | refine a7 ?_ | refine aT ?_ | refine cQ rfl ?_ | refine aA ?_))
 refine cW (St.of [(0,o1 (.esl 1000 i 0 m)),(3,vv (I6 ((m:Int) + 1))),(16,vv (.bool false))] [(1000,a6 zss)]) ?_ ?_
 ·refine ah ?_
  (refine aa rfl (aj rfl rfl) (aa rfl (aG rfl rfl rfl rfl) (aa rfl (aj rfl rfl) ?_)))
  refine bS 19 rfl (fun e1=> ?_) (fun e1=> ?_)
  ·have e1:m=1:=by simp at e1;omega
   have hg2:¬aC labs 0 > 0:=fun h=>hq ⟨e1,h⟩
   have hgl:(aL labs)[0]? =some (I6 (aC labs 0)):=bl ae
   have hbf:eB .i64 .gtr (aC labs 0) 0=some (.bool false):=by simp [eB];omega
   (apply aH rfl rfl rfl;exact aj rfl rfl;apply aH rfl rfl rfl;(first | exact aG rfl rfl rfl hbf | exact bd (j:=0) rfl rfl rfl rfl rfl ab hrow rfl ae hilm | exact a5 rfl ab rfl rfl rfl hrow hgl);apply aH rfl rfl rfl;(first | exact aG rfl rfl rfl hbf | exact bd (j:=0) rfl rfl rfl rfl rfl ab hrow rfl ae hilm | exact a5 rfl ab rfl rfl rfl hrow hgl);apply aH rfl rfl rfl;(first | exact aG rfl rfl rfl hbf | exact bd (j:=0) rfl rfl rfl rfl rfl ab hrow rfl ae hilm | exact a5 rfl ab rfl rfl rfl hrow hgl);refine aa rfl (bp rfl rfl rfl) (aa rfl (ai rfl rfl) (ar ?_)))
   exact aV (Wk.of ⟨rfl,rfl,rfl,ag⟩ ⟨rfl,ag⟩ trivial)
  ·(apply aD rfl rfl rfl rfl rfl;apply aD rfl rfl rfl rfl rfl;apply aD rfl rfl rfl rfl rfl;apply aD rfl rfl rfl rfl rfl;refine aa rfl (bD rfl rfl rfl) (aa rfl (ai rfl rfl) (ar ?_)))
   exact aV (Wk.of ⟨rfl,rfl,rfl,ag⟩ ⟨rfl,ag⟩ trivial)
 (refine an ?_)
 refine ax rfl (fun e=>by cases e) (fun _=> ?_)
 (refine ak (ah (aa rfl (aj rfl rfl) ?_));apply aa rfl;(exact cN (E:=2) rfl ab rfl rfl);apply aa rfl;(first | (apply au 142;exact aw hE1 ab rfl rfl ⟨rfl,rfl,ag⟩ ⟨⟨_,rfl, .inl rfl⟩,⟨_,rfl, .inr rfl⟩,ag⟩ rfl rfl) | exact aX (E:=2) rfl ab rfl rfl rfl | exact aY (E:=2) rfl ab rfl rfl rfl rfl);refine aa rfl (ai rfl rfl) (ar (an ?_)))
 refine ax rfl (fun e=>by cases e) (fun _=> ?_)
 (refine ak (ah (aa rfl (aj rfl rfl) ?_));apply aa rfl;(first | (apply au 142;exact aw hE2 ab rfl rfl ⟨rfl,rfl,ag⟩ ⟨⟨_,rfl, .inl rfl⟩,⟨_,rfl, .inr rfl⟩,ag⟩ rfl rfl) | exact aX (E:=2) rfl ab rfl rfl rfl | exact aY (E:=2) rfl ab rfl rfl rfl rfl);apply aa rfl;(first | (apply au 142;exact aw hE2 ab rfl rfl ⟨rfl,rfl,ag⟩ ⟨⟨_,rfl, .inl rfl⟩,⟨_,rfl, .inr rfl⟩,ag⟩ rfl rfl) | exact aX (E:=2) rfl ab rfl rfl rfl | exact aY (E:=2) rfl ab rfl rfl rfl rfl);refine aa rfl (ai rfl rfl) (ar (an ?_)))
 refine ax rfl (fun e=>by cases e) (fun _=> ?_)
 (refine ak (ah (aa rfl (aj rfl rfl) ?_));apply aa rfl;(first | (apply au 142;exact aw hE3 ab rfl rfl ⟨rfl,rfl,ag⟩ ⟨⟨_,rfl, .inl rfl⟩,⟨_,rfl, .inr rfl⟩,ag⟩ rfl rfl) | exact aX (E:=2) rfl ab rfl rfl rfl | exact aY (E:=2) rfl ab rfl rfl rfl rfl);apply aa rfl;(first | (apply au 142;exact aw hE3 ab rfl rfl ⟨rfl,rfl,ag⟩ ⟨⟨_,rfl, .inl rfl⟩,⟨_,rfl, .inr rfl⟩,ag⟩ rfl rfl) | exact aX (E:=2) rfl ab rfl rfl rfl | exact aY (E:=2) rfl ab rfl rfl rfl rfl);refine aa rfl (ai rfl rfl) (ar (an ?_)))
 refine ax rfl (fun e=>by cases e) (fun _=> ?_)
 (refine aE (aM (an (ak (ak (ah (aa rfl (aj rfl rfl) (aa rfl (aG rfl rfl rfl rfl) (ar (an ?_))))))))))
 refine ax rfl (fun e=> ?_) (fun _=> ?_)
 ·exfalso;simp at e;omega
 (refine aE (an (ak (ah (aa rfl (aj rfl rfl) (aa rfl (ai rfl rfl) (ar (an (ak (ak (ah (aa rfl (aj rfl rfl) ?_)))))))))));apply aa rfl;(first | exact bd (j:=0) rfl rfl rfl rfl rfl ab hrow rfl ae hilm | exact a5 rfl ab rfl rfl rfl hrow hgl);apply aa rfl;(first | exact bd (j:=0) rfl rfl rfl rfl rfl ab hrow rfl ae hilm | exact a5 rfl ab rfl rfl rfl hrow hgl);refine aa rfl (aG rfl rfl rfl rfl) (ar (an ?_)))
 refine ax rfl (fun e=> ?_) (fun e=> ?_)
 ·exfalso;simp at e;exact e hA
 (refine aE (an (ak (ak (ah (aa rfl (ai rfl rfl) (ar (an (aB ?_)))))))))
 refine bz (fun k:Nat=>St.of [(3,vv (I6 ((m:Int) + 1))),(4,o1 (.esl 1000 i 0 m)),(5,vv (I6 k))] [(1000,a6 zss)]) (fun k=>k≤m - 1∧∀q,q < k→aC (ends labs) q=3) (fun k=>m - k) 0 ⟨Nat.zero_le _,fun q h=>absurd h ae⟩ (Wk.of ⟨rfl,rfl,rfl,ag⟩ ⟨rfl,ag⟩ trivial) ?_
 rintro k ⟨hk,hq3⟩
 have hkm:k < m:=by omega
 have hgk:(aL labs)[k]? =some (I6 (aC (ends labs) k)):=by rw [hE];exact bl (by first | omega | (rw [List.length_reverse];omega))
 have hwk:IntKind.i64.wrap ((k:Int) + 1)=(k:Int) + 1:=IntWalk.i64_in _ ae
 (refine ak (ak (ah (aa rfl (aj rfl rfl) (aa rfl (aP rfl rfl rfl hwk) ?_))));refine aa rfl (aj rfl rfl) (aa rfl (bw rfl rfl rfl ab) ?_);refine aa rfl (aG rfl rfl rfl rfl) (ar (an ?_)))
 refine bK rfl (fun hlt=> ?_) (fun hlt=> ?_)
 ·(refine aE (an (ak (aB (ak (ah (aa rfl (aj rfl rfl) (aa rfl (aj rfl rfl) ?_)))))));apply aa rfl;(first | exact bd (j:=k) rfl rfl rfl rfl rfl ab hrow rfl hkm hilm | exact a5 rfl ab rfl rfl rfl hrow hgk);apply aa rfl;(first | exact bd (j:=k) rfl rfl rfl rfl rfl ab hrow rfl hkm hilm | exact a5 rfl ab rfl rfl rfl hrow hgk);refine aa rfl (aG rfl rfl rfl rfl) (ar (an ?_)))
  refine ax rfl (fun e=> ?_) (fun e=> ?_)
  ·(refine ak (ah (aa rfl (ai rfl rfl) (ar (an (aS (bt (aO (aO (bt (aO ?_)))))))))))
   exact bu (.inl rfl) rfl (.tmp rfl) trivial trivial
  ·have e:aC (ends labs) k=3:=by simpa using e
   (refine aE (aM (an (ah (aa rfl (aj rfl rfl) (aa rfl (aP rfl rfl rfl hwk) ?_)))));refine aa rfl (ai rfl rfl) (ar ?_))
   exact aW (k + 1) ⟨ae,fun q h=>by
    by_cases e':q=k
    ·subst e';exact e
    ·exact hq3 q ae⟩ ae (Wk.of ⟨rfl,rfl,rfl,ag⟩ ⟨rfl,ag⟩ trivial)
 ·exfalso
  rw [ug (fun q h=>hq3 q ae)] at ht
  cases ht
theorem Aq (zss:List (List Int)) (i m:Nat) (labs:List Int) (hi:i < zss.length) (hlb:bn zss i=labs) (hm:labs.length=m) (hm4:m≤4) (h0:0 < m) (hq:¬(m=1∧0 < aC labs 0)) (e1:bQ labs [3,5]=false) (e2:bQ labs [3,3,5]=false) (e3:bQ labs [3,4,3]=false) (h2:2≤m) (hA:aC labs 0=3) (ht:fE labs=true) (hlast:aC (ends labs) (labs.length - 1)=3):
  FC Tryz.prog 116 [(1000,a6 zss)] [o1 (.esl 1000 i 0 m)] [(65,bG (gm (m + 1) 1))] (o1 (.sl 65 0 (m + 1))) []:=by
 have hrow:(bV zss)[i]? =some (aL labs):=by rw [←hlb];exact cf hi
 have hilm:m≤(aL labs).length:=by rw [bc,hm];exact Nat.le_refl _
 have hE1:=(bM zss i m 2 labs [3,5] hi hlb hm rfl ae ae).nm [(1000,1000),(1001,31)] (by kernel_rfl)
 have hE1:FC Tryz.prog 142 [(1000,a6 zss),(31,dk [3,5])] [o1 (.esl 1000 i 0 m),o1 (.sl 31 0 2)] [] (vv (.bool (bQ labs [3,5]))) []:=hE1
 rw [e1] at hE1
 have hE2:=(bM zss i m 3 labs [3,3,5] hi hlb hm rfl ae ae).nm [(1000,1000),(1001,36)] (by kernel_rfl)
 have hE2:FC Tryz.prog 142 [(1000,a6 zss),(36,dk [3,3,5])] [o1 (.esl 1000 i 0 m),o1 (.sl 36 0 3)] [] (vv (.bool (bQ labs [3,3,5]))) []:=hE2
 rw [e2] at hE2
 have hE3:=(bM zss i m 3 labs [3,4,3] hi hlb hm rfl ae ae).nm [(1000,1000),(1001,41)] (by kernel_rfl)
 have hE3:FC Tryz.prog 142 [(1000,a6 zss),(41,dk [3,4,3])] [o1 (.esl 1000 i 0 m),o1 (.sl 41 0 3)] [] (vv (.bool (bQ labs [3,4,3]))) []:=hE3
 rw [e3] at hE3
 refine bj (nt:=97) Tryz.func116 rfl rfl (by simp) fun w0 ω0=> ?_
 have hgl:(aL labs)[0]? =some (I6 (aC labs 0)):=bl ae
 have hE:ends labs=labs:=by unfold ends;rw [if_pos hA]
 have hw1:IntKind.i64.wrap ((m:Int) + 1)=(m:Int) + 1:=IntWalk.i64_in _ ae
 (refine ak (ah (aa rfl (ai rfl rfl) (ar (an (ak (ah (aa rfl (aj rfl rfl) (aa rfl (bw rfl rfl rfl ab) ?_))))))));apply aa rfl;exact aP rfl rfl rfl hw1;refine aa rfl (ai rfl rfl) (ar (an (ak (aB (ak (ah (aa rfl (aj rfl rfl) (aa rfl (aG rfl rfl rfl rfl) (aa rfl (ai rfl rfl) (ar (an ?_))))))))))))
 refine ax rfl (fun e=> ?_) (fun _=> ?_)
 ·exfalso;simp at e;omega
 (repeat (first | refine ak ?_ | refine an ?_ | refine aE ?_ | refine aB ?_ | refine aM ?_ | refine a7 ?_ | refine aT ?_ | refine cQ rfl ?_ | refine aA ?_))
 refine cW (St.of [(0,o1 (.esl 1000 i 0 m)),(3,vv (I6 ((m:Int) + 1))),(16,vv (.bool false))] [(1000,a6 zss)]) ?_ ?_
 ·refine ah ?_
  (refine aa rfl (aj rfl rfl) (aa rfl (aG rfl rfl rfl rfl) (aa rfl (aj rfl rfl) ?_)))
  refine bS 19 rfl (fun e1=> ?_) (fun e1=> ?_)
  ·have e1:m=1:=by simp at e1;omega
   have hg2:¬aC labs 0 > 0:=fun h=>hq ⟨e1,h⟩
   have hgl:(aL labs)[0]? =some (I6 (aC labs 0)):=bl ae
   have hbf:eB .i64 .gtr (aC labs 0) 0=some (.bool false):=by simp [eB];omega
   (apply aH rfl rfl rfl;exact aj rfl rfl;apply aH rfl rfl rfl;(first | exact aG rfl rfl rfl hbf | exact bd (j:=0) rfl rfl rfl rfl rfl ab hrow rfl ae hilm | exact a5 rfl ab rfl rfl rfl hrow hgl);apply aH rfl rfl rfl;(first | exact aG rfl rfl rfl hbf | exact bd (j:=0) rfl rfl rfl rfl rfl ab hrow rfl ae hilm | exact a5 rfl ab rfl rfl rfl hrow hgl);apply aH rfl rfl rfl;(first | exact aG rfl rfl rfl hbf | exact bd (j:=0) rfl rfl rfl rfl rfl ab hrow rfl ae hilm | exact a5 rfl ab rfl rfl rfl hrow hgl);refine aa rfl (bp rfl rfl rfl) (aa rfl (ai rfl rfl) (ar ?_)))
   exact aV (Wk.of ⟨rfl,rfl,rfl,ag⟩ ⟨rfl,ag⟩ trivial)
  ·(apply aD rfl rfl rfl rfl rfl;apply aD rfl rfl rfl rfl rfl;apply aD rfl rfl rfl rfl rfl;apply aD rfl rfl rfl rfl rfl;refine aa rfl (bD rfl rfl rfl) (aa rfl (ai rfl rfl) (ar ?_)))
   exact aV (Wk.of ⟨rfl,rfl,rfl,ag⟩ ⟨rfl,ag⟩ trivial)
 (refine an ?_)
 refine ax rfl (fun e=>by cases e) (fun _=> ?_)
 (refine ak (ah (aa rfl (aj rfl rfl) ?_));apply aa rfl;(exact cN (E:=2) rfl ab rfl rfl);apply aa rfl;(first | (apply au 142;exact aw hE1 ab rfl rfl ⟨rfl,rfl,ag⟩ ⟨⟨_,rfl, .inl rfl⟩,⟨_,rfl, .inr rfl⟩,ag⟩ rfl rfl) | exact aX (E:=2) rfl ab rfl rfl rfl | exact aY (E:=2) rfl ab rfl rfl rfl rfl);refine aa rfl (ai rfl rfl) (ar (an ?_)))
 refine ax rfl (fun e=>by cases e) (fun _=> ?_)
 (refine ak (ah (aa rfl (aj rfl rfl) ?_));apply aa rfl;(first | (apply au 142;exact aw hE2 ab rfl rfl ⟨rfl,rfl,ag⟩ ⟨⟨_,rfl, .inl rfl⟩,⟨_,rfl, .inr rfl⟩,ag⟩ rfl rfl) | exact aX (E:=2) rfl ab rfl rfl rfl | exact aY (E:=2) rfl ab rfl rfl rfl rfl);apply aa rfl;(first | (apply au 142;exact aw hE2 ab rfl rfl ⟨rfl,rfl,ag⟩ ⟨⟨_,rfl, .inl rfl⟩,⟨_,rfl, .inr rfl⟩,ag⟩ rfl rfl) | exact aX (E:=2) rfl ab rfl rfl rfl | exact aY (E:=2) rfl ab rfl rfl rfl rfl);refine aa rfl (ai rfl rfl) (ar (an ?_)))
 refine ax rfl (fun e=>by cases e) (fun _=> ?_)
 (refine ak (ah (aa rfl (aj rfl rfl) ?_));apply aa rfl;(first | (apply au 142;exact aw hE3 ab rfl rfl ⟨rfl,rfl,ag⟩ ⟨⟨_,rfl, .inl rfl⟩,⟨_,rfl, .inr rfl⟩,ag⟩ rfl rfl) | exact aX (E:=2) rfl ab rfl rfl rfl | exact aY (E:=2) rfl ab rfl rfl rfl rfl);apply aa rfl;(first | (apply au 142;exact aw hE3 ab rfl rfl ⟨rfl,rfl,ag⟩ ⟨⟨_,rfl, .inl rfl⟩,⟨_,rfl, .inr rfl⟩,ag⟩ rfl rfl) | exact aX (E:=2) rfl ab rfl rfl rfl | exact aY (E:=2) rfl ab rfl rfl rfl rfl);refine aa rfl (ai rfl rfl) (ar (an ?_)))
 refine ax rfl (fun e=>by cases e) (fun _=> ?_)
 (refine aE (aM (an (ak (ak (ah (aa rfl (aj rfl rfl) (aa rfl (aG rfl rfl rfl rfl) (ar (an ?_))))))))))
 refine ax rfl (fun e=> ?_) (fun _=> ?_)
 ·exfalso;simp at e;omega
 (refine aE (an (ak (ah (aa rfl (aj rfl rfl) (aa rfl (ai rfl rfl) (ar (an (ak (ak (ah (aa rfl (aj rfl rfl) ?_)))))))))));apply aa rfl;(first | exact bd (j:=0) rfl rfl rfl rfl rfl ab hrow rfl ae hilm | exact a5 rfl ab rfl rfl rfl hrow hgl);apply aa rfl;(first | exact bd (j:=0) rfl rfl rfl rfl rfl ab hrow rfl ae hilm | exact a5 rfl ab rfl rfl rfl hrow hgl);refine aa rfl (aG rfl rfl rfl rfl) (ar (an ?_)))
 refine ax rfl (fun e=> ?_) (fun e=> ?_)
 ·exfalso;simp at e;exact e hA
 (refine aE (an (ak (ak (ah (aa rfl (ai rfl rfl) (ar (an (aB ?_)))))))))
 refine bz (fun k:Nat=>St.of [(3,vv (I6 ((m:Int) + 1))),(4,o1 (.esl 1000 i 0 m)),(5,vv (I6 k))] [(1000,a6 zss)]) (fun k=>k≤m - 1∧∀q,q < k→aC (ends labs) q=3) (fun k=>m - k) 0 ⟨Nat.zero_le _,fun q h=>absurd h ae⟩ (Wk.of ⟨rfl,rfl,rfl,ag⟩ ⟨rfl,ag⟩ trivial) ?_
 rintro k ⟨hk,hq3⟩
 have hkm:k < m:=by omega
 have hgk:(aL labs)[k]? =some (I6 (aC (ends labs) k)):=by rw [hE];exact bl (by first | omega | (rw [List.length_reverse];omega))
 have hwk:IntKind.i64.wrap ((k:Int) + 1)=(k:Int) + 1:=IntWalk.i64_in _ ae
 (refine ak (ak (ah (aa rfl (aj rfl rfl) (aa rfl (aP rfl rfl rfl hwk) ?_))));refine aa rfl (aj rfl rfl) (aa rfl (bw rfl rfl rfl ab) ?_);refine aa rfl (aG rfl rfl rfl rfl) (ar (an ?_)))
 refine bK rfl (fun hlt=> ?_) (fun hlt=> ?_)
 ·(refine aE (an (ak (aB (ak (ah (aa rfl (aj rfl rfl) (aa rfl (aj rfl rfl) ?_)))))));apply aa rfl;(first | exact bd (j:=k) rfl rfl rfl rfl rfl ab hrow rfl hkm hilm | exact a5 rfl ab rfl rfl rfl hrow hgk);apply aa rfl;(first | exact bd (j:=k) rfl rfl rfl rfl rfl ab hrow rfl hkm hilm | exact a5 rfl ab rfl rfl rfl hrow hgk);refine aa rfl (aG rfl rfl rfl rfl) (ar (an ?_)))
  refine ax rfl (fun e=> ?_) (fun e=> ?_)
  ·exfalso
   have:=jx ht (k:=k) ae
   simp at e
   exact e this
  ·have e:aC (ends labs) k=3:=by simpa using e
   (refine aE (aM (an (ah (aa rfl (aj rfl rfl) (aa rfl (aP rfl rfl rfl hwk) ?_)))));refine aa rfl (ai rfl rfl) (ar ?_))
   exact aW (k + 1) ⟨ae,fun q h=>by
    by_cases e':q=k
    ·subst e';exact e
    ·exact hq3 q ae⟩ ae (Wk.of ⟨rfl,rfl,rfl,ag⟩ ⟨rfl,ag⟩ trivial)
 ·have hgm:(aL labs)[m - 1]? =some (I6 (aC (ends labs) (m - 1))):=by rw [hE];exact bl (by first | omega | (rw [List.length_reverse];omega))
  have hm1:(m:Int) - 1=((m - 1:Nat):Int):=by omega
  have hws:IntKind.i64.wrap ((m:Int) - 1)=(m:Int) - 1:=IntWalk.i64_in _ ae
  rw [hm] at hlast
  (refine a7 (aA (aA (aT (an (ak (ah ?_))))));apply aa rfl;(exact ey (E:=2) (k:=1) rfl ab);refine aa rfl (ai rfl rfl) (ar (an (ak (ak (ah (aa rfl (aj rfl rfl) (aa rfl (aj rfl rfl) (aa rfl (bw rfl rfl rfl ab) ?_))))))));apply aa rfl;(first | exact cg rfl rfl rfl hws | exact bd (j:=m - 1) rfl rfl rfl rfl rfl ab hrow hm1 ae hilm | exact a5 rfl ab rfl rfl rfl hrow hgm);apply aa rfl;(first | exact cg rfl rfl rfl hws | exact bd (j:=m - 1) rfl rfl rfl rfl rfl ab hrow hm1 ae hilm | exact a5 rfl ab rfl rfl rfl hrow hgm);apply aa rfl;(first | exact cg rfl rfl rfl hws | exact bd (j:=m - 1) rfl rfl rfl rfl rfl ab hrow hm1 ae hilm | exact a5 rfl ab rfl rfl rfl hrow hgm);refine ar (an (aB (ak (ah (aa rfl (aG rfl rfl rfl rfl) (aa rfl (ai rfl rfl) (ar (an ?_)))))))))
  refine ax rfl (fun _=> ?_) (fun e=> ?_)
  rotate_left
  ·exfalso;simp at e;exact e hlast
  (refine ak (ah (aa rfl (ai rfl rfl) (ar (an (aB ?_))))))
  have hw2:IntKind.i64.wrap ((m:Int) + 1 + 1)=(m:Int) + 1 + 1:=IntWalk.i64_in _ ae
  refine bz (fun k:Nat=>St.of [(3,vv (I6 ((m:Int) + 1))),(6,o1 (.sl 65 0 k)),(7,vv (I6 (2 + 1 * (k:Int))))] [(65,bG (gm k 1))]) (fun k=>k≤m + 1) (fun k=>m + 1 - k) 0 (Nat.zero_le _) (Wk.of ⟨rfl,rfl,rfl,ag⟩ ⟨rfl,ag⟩ trivial) ?_
  rintro k hk
  have hwa:IntKind.i64.wrap (2 + 1 * (k:Int) + 1)=2 + 1 * ((k + 1:Nat):Int):=(IntWalk.i64_in _ ae).trans ae
  (refine ak (ak (ah (aa rfl (aj rfl rfl) (aa rfl (aj rfl rfl) (aa rfl (aP rfl rfl rfl hw2) ?_)))));refine aa rfl (aG rfl rfl rfl rfl) (ar (an ?_)))
  refine bK rfl (fun hlt=> ?_) (fun hlt=> ?_)
  ·(refine aE (an (ak (aB (ah (aa rfl (aj rfl rfl) (aa rfl (aj rfl rfl) ?_))))));apply aa rfl;(exact bW (E:=2) rfl ab rfl);apply aa rfl;(first | exact aP rfl rfl rfl hwa | exact bE rfl ab rfl rfl rfl (dt _ _) rfl rfl ae);refine aa rfl (ai rfl rfl) (ar (aM (an (ah (aa rfl (aj rfl rfl) ?_)))));apply aa rfl;(first | exact aP rfl rfl rfl hwa | exact bE rfl ab rfl rfl rfl (dt _ _) rfl rfl ae);refine aa rfl (ai rfl rfl) (ar ?_))
   exact aW (k + 1) ae ae (Wk.of ⟨rfl,rfl,rfl,ag⟩ ⟨by rw [jt];rfl,ag⟩ trivial)
  ·obtain rfl:k=m + 1:=by omega
   (refine a7 (aA (aA (aT (aM (an (ak (ah (aa rfl (aj rfl rfl) (aa rfl (ai rfl rfl) (ar (an ?_)))))))))));refine aS ?_)
   exact bu (.inl rfl) rfl (.tmp rfl) ⟨rfl,ag⟩ trivial
theorem ze (zss:List (List Int)) (i m:Nat) (labs:List Int) (hi:i < zss.length) (hlb:bn zss i=labs) (hm:labs.length=m) (hm4:m≤4) (h0:0 < m) (hq:¬(m=1∧0 < aC labs 0)) (e1:bQ labs [3,5]=false) (e2:bQ labs [3,3,5]=false) (e3:bQ labs [3,4,3]=false) (h2:2≤m) (hA:aC labs 0=3) (ht:fE labs=true) (hlast:aC (ends labs) (labs.length - 1)=4):
  FC Tryz.prog 116 [(1000,a6 zss)] [o1 (.esl 1000 i 0 m)] [(65,bG (gm (m + 1) 2))] (o1 (.sl 65 0 (m + 1))) []:=by
 have hrow:(bV zss)[i]? =some (aL labs):=by rw [←hlb];exact cf hi
 have hilm:m≤(aL labs).length:=by rw [bc,hm];exact Nat.le_refl _
 have hE1:=(bM zss i m 2 labs [3,5] hi hlb hm rfl ae ae).nm [(1000,1000),(1001,31)] (by kernel_rfl)
 have hE1:FC Tryz.prog 142 [(1000,a6 zss),(31,dk [3,5])] [o1 (.esl 1000 i 0 m),o1 (.sl 31 0 2)] [] (vv (.bool (bQ labs [3,5]))) []:=hE1
 rw [e1] at hE1
 have hE2:=(bM zss i m 3 labs [3,3,5] hi hlb hm rfl ae ae).nm [(1000,1000),(1001,36)] (by kernel_rfl)
 have hE2:FC Tryz.prog 142 [(1000,a6 zss),(36,dk [3,3,5])] [o1 (.esl 1000 i 0 m),o1 (.sl 36 0 3)] [] (vv (.bool (bQ labs [3,3,5]))) []:=hE2
 rw [e2] at hE2
 have hE3:=(bM zss i m 3 labs [3,4,3] hi hlb hm rfl ae ae).nm [(1000,1000),(1001,41)] (by kernel_rfl)
 have hE3:FC Tryz.prog 142 [(1000,a6 zss),(41,dk [3,4,3])] [o1 (.esl 1000 i 0 m),o1 (.sl 41 0 3)] [] (vv (.bool (bQ labs [3,4,3]))) []:=hE3
 rw [e3] at hE3
 refine bj (nt:=97) Tryz.func116 rfl rfl (by simp) fun w0 ω0=> ?_
 have hgl:(aL labs)[0]? =some (I6 (aC labs 0)):=bl ae
 have hE:ends labs=labs:=by unfold ends;rw [if_pos hA]
 have hw1:IntKind.i64.wrap ((m:Int) + 1)=(m:Int) + 1:=IntWalk.i64_in _ ae
 (refine ak (ah (aa rfl (ai rfl rfl) (ar (an (ak (ah (aa rfl (aj rfl rfl) (aa rfl (bw rfl rfl rfl ab) ?_))))))));apply aa rfl;exact aP rfl rfl rfl hw1;refine aa rfl (ai rfl rfl) (ar (an (ak (aB (ak (ah (aa rfl (aj rfl rfl) (aa rfl (aG rfl rfl rfl rfl) (aa rfl (ai rfl rfl) (ar (an ?_))))))))))))
 refine ax rfl (fun e=> ?_) (fun _=> ?_)
 ·exfalso;simp at e;omega
 (repeat (first | refine ak ?_ | refine an ?_ | refine aE ?_ | refine aB ?_ | refine aM ?_ | refine a7 ?_ | refine aT ?_ | refine cQ rfl ?_ | refine aA ?_))
 refine cW (St.of [(0,o1 (.esl 1000 i 0 m)),(3,vv (I6 ((m:Int) + 1))),(16,vv (.bool false))] [(1000,a6 zss)]) ?_ ?_
 ·refine ah ?_
  (refine aa rfl (aj rfl rfl) (aa rfl (aG rfl rfl rfl rfl) (aa rfl (aj rfl rfl) ?_)))
  refine bS 19 rfl (fun e1=> ?_) (fun e1=> ?_)
  ·have e1:m=1:=by simp at e1;omega
   have hg2:¬aC labs 0 > 0:=fun h=>hq ⟨e1,h⟩
   have hgl:(aL labs)[0]? =some (I6 (aC labs 0)):=bl ae
   have hbf:eB .i64 .gtr (aC labs 0) 0=some (.bool false):=by simp [eB];omega
   (apply aH rfl rfl rfl;exact aj rfl rfl;apply aH rfl rfl rfl;(first | exact aG rfl rfl rfl hbf | exact bd (j:=0) rfl rfl rfl rfl rfl ab hrow rfl ae hilm | exact a5 rfl ab rfl rfl rfl hrow hgl);apply aH rfl rfl rfl;(first | exact aG rfl rfl rfl hbf | exact bd (j:=0) rfl rfl rfl rfl rfl ab hrow rfl ae hilm | exact a5 rfl ab rfl rfl rfl hrow hgl);apply aH rfl rfl rfl;(first | exact aG rfl rfl rfl hbf | exact bd (j:=0) rfl rfl rfl rfl rfl ab hrow rfl ae hilm | exact a5 rfl ab rfl rfl rfl hrow hgl);refine aa rfl (bp rfl rfl rfl) (aa rfl (ai rfl rfl) (ar ?_)))
   exact aV (Wk.of ⟨rfl,rfl,rfl,ag⟩ ⟨rfl,ag⟩ trivial)
  ·(apply aD rfl rfl rfl rfl rfl;apply aD rfl rfl rfl rfl rfl;apply aD rfl rfl rfl rfl rfl;apply aD rfl rfl rfl rfl rfl;refine aa rfl (bD rfl rfl rfl) (aa rfl (ai rfl rfl) (ar ?_)))
   exact aV (Wk.of ⟨rfl,rfl,rfl,ag⟩ ⟨rfl,ag⟩ trivial)
 (refine an ?_)
 refine ax rfl (fun e=>by cases e) (fun _=> ?_)
 (refine ak (ah (aa rfl (aj rfl rfl) ?_));apply aa rfl;(exact cN (E:=2) rfl ab rfl rfl);apply aa rfl;(first | (apply au 142;exact aw hE1 ab rfl rfl ⟨rfl,rfl,ag⟩ ⟨⟨_,rfl, .inl rfl⟩,⟨_,rfl, .inr rfl⟩,ag⟩ rfl rfl) | exact aX (E:=2) rfl ab rfl rfl rfl | exact aY (E:=2) rfl ab rfl rfl rfl rfl);refine aa rfl (ai rfl rfl) (ar (an ?_)))
 refine ax rfl (fun e=>by cases e) (fun _=> ?_)
 (refine ak (ah (aa rfl (aj rfl rfl) ?_));apply aa rfl;(first | (apply au 142;exact aw hE2 ab rfl rfl ⟨rfl,rfl,ag⟩ ⟨⟨_,rfl, .inl rfl⟩,⟨_,rfl, .inr rfl⟩,ag⟩ rfl rfl) | exact aX (E:=2) rfl ab rfl rfl rfl | exact aY (E:=2) rfl ab rfl rfl rfl rfl);apply aa rfl;(first | (apply au 142;exact aw hE2 ab rfl rfl ⟨rfl,rfl,ag⟩ ⟨⟨_,rfl, .inl rfl⟩,⟨_,rfl, .inr rfl⟩,ag⟩ rfl rfl) | exact aX (E:=2) rfl ab rfl rfl rfl | exact aY (E:=2) rfl ab rfl rfl rfl rfl);refine aa rfl (ai rfl rfl) (ar (an ?_)))
 refine ax rfl (fun e=>by cases e) (fun _=> ?_)
 (refine ak (ah (aa rfl (aj rfl rfl) ?_));apply aa rfl;(first | (apply au 142;exact aw hE3 ab rfl rfl ⟨rfl,rfl,ag⟩ ⟨⟨_,rfl, .inl rfl⟩,⟨_,rfl, .inr rfl⟩,ag⟩ rfl rfl) | exact aX (E:=2) rfl ab rfl rfl rfl | exact aY (E:=2) rfl ab rfl rfl rfl rfl);apply aa rfl;(first | (apply au 142;exact aw hE3 ab rfl rfl ⟨rfl,rfl,ag⟩ ⟨⟨_,rfl, .inl rfl⟩,⟨_,rfl, .inr rfl⟩,ag⟩ rfl rfl) | exact aX (E:=2) rfl ab rfl rfl rfl | exact aY (E:=2) rfl ab rfl rfl rfl rfl);refine aa rfl (ai rfl rfl) (ar (an ?_)))
 refine ax rfl (fun e=>by cases e) (fun _=> ?_)
 (refine aE (aM (an (ak (ak (ah (aa rfl (aj rfl rfl) (aa rfl (aG rfl rfl rfl rfl) (ar (an ?_))))))))))
 refine ax rfl (fun e=> ?_) (fun _=> ?_)
 ·exfalso;simp at e;omega
 (refine aE (an (ak (ah (aa rfl (aj rfl rfl) (aa rfl (ai rfl rfl) (ar (an (ak (ak (ah (aa rfl (aj rfl rfl) ?_)))))))))));apply aa rfl;(first | exact bd (j:=0) rfl rfl rfl rfl rfl ab hrow rfl ae hilm | exact a5 rfl ab rfl rfl rfl hrow hgl);apply aa rfl;(first | exact bd (j:=0) rfl rfl rfl rfl rfl ab hrow rfl ae hilm | exact a5 rfl ab rfl rfl rfl hrow hgl);refine aa rfl (aG rfl rfl rfl rfl) (ar (an ?_)))
 refine ax rfl (fun e=> ?_) (fun e=> ?_)
 ·exfalso;simp at e;exact e hA
 (refine aE (an (ak (ak (ah (aa rfl (ai rfl rfl) (ar (an (aB ?_)))))))))
 refine bz (fun k:Nat=>St.of [(3,vv (I6 ((m:Int) + 1))),(4,o1 (.esl 1000 i 0 m)),(5,vv (I6 k))] [(1000,a6 zss)]) (fun k=>k≤m - 1∧∀q,q < k→aC (ends labs) q=3) (fun k=>m - k) 0 ⟨Nat.zero_le _,fun q h=>absurd h ae⟩ (Wk.of ⟨rfl,rfl,rfl,ag⟩ ⟨rfl,ag⟩ trivial) ?_
 rintro k ⟨hk,hq3⟩
 have hkm:k < m:=by omega
 have hgk:(aL labs)[k]? =some (I6 (aC (ends labs) k)):=by rw [hE];exact bl (by first | omega | (rw [List.length_reverse];omega))
 have hwk:IntKind.i64.wrap ((k:Int) + 1)=(k:Int) + 1:=IntWalk.i64_in _ ae
 (refine ak (ak (ah (aa rfl (aj rfl rfl) (aa rfl (aP rfl rfl rfl hwk) ?_))));refine aa rfl (aj rfl rfl) (aa rfl (bw rfl rfl rfl ab) ?_);refine aa rfl (aG rfl rfl rfl rfl) (ar (an ?_)))
 refine bK rfl (fun hlt=> ?_) (fun hlt=> ?_)
 ·(refine aE (an (ak (aB (ak (ah (aa rfl (aj rfl rfl) (aa rfl (aj rfl rfl) ?_)))))));apply aa rfl;(first | exact bd (j:=k) rfl rfl rfl rfl rfl ab hrow rfl hkm hilm | exact a5 rfl ab rfl rfl rfl hrow hgk);apply aa rfl;(first | exact bd (j:=k) rfl rfl rfl rfl rfl ab hrow rfl hkm hilm | exact a5 rfl ab rfl rfl rfl hrow hgk);refine aa rfl (aG rfl rfl rfl rfl) (ar (an ?_)))
  refine ax rfl (fun e=> ?_) (fun e=> ?_)
  ·exfalso
   have:=jx ht (k:=k) ae
   simp at e
   exact e this
  ·have e:aC (ends labs) k=3:=by simpa using e
   (refine aE (aM (an (ah (aa rfl (aj rfl rfl) (aa rfl (aP rfl rfl rfl hwk) ?_)))));refine aa rfl (ai rfl rfl) (ar ?_))
   exact aW (k + 1) ⟨ae,fun q h=>by
    by_cases e':q=k
    ·subst e';exact e
    ·exact hq3 q ae⟩ ae (Wk.of ⟨rfl,rfl,rfl,ag⟩ ⟨rfl,ag⟩ trivial)
 ·have hgm:(aL labs)[m - 1]? =some (I6 (aC (ends labs) (m - 1))):=by rw [hE];exact bl (by first | omega | (rw [List.length_reverse];omega))
  have hm1:(m:Int) - 1=((m - 1:Nat):Int):=by omega
  have hws:IntKind.i64.wrap ((m:Int) - 1)=(m:Int) - 1:=IntWalk.i64_in _ ae
  rw [hm] at hlast
  (refine a7 (aA (aA (aT (an (ak (ah ?_))))));apply aa rfl;(exact ey (E:=2) (k:=1) rfl ab);refine aa rfl (ai rfl rfl) (ar (an (ak (ak (ah (aa rfl (aj rfl rfl) (aa rfl (aj rfl rfl) (aa rfl (bw rfl rfl rfl ab) ?_))))))));apply aa rfl;(first | exact cg rfl rfl rfl hws | exact bd (j:=m - 1) rfl rfl rfl rfl rfl ab hrow hm1 ae hilm | exact a5 rfl ab rfl rfl rfl hrow hgm);apply aa rfl;(first | exact cg rfl rfl rfl hws | exact bd (j:=m - 1) rfl rfl rfl rfl rfl ab hrow hm1 ae hilm | exact a5 rfl ab rfl rfl rfl hrow hgm);apply aa rfl;(first | exact cg rfl rfl rfl hws | exact bd (j:=m - 1) rfl rfl rfl rfl rfl ab hrow hm1 ae hilm | exact a5 rfl ab rfl rfl rfl hrow hgm);refine ar (an (aB (ak (ah (aa rfl (aG rfl rfl rfl rfl) (aa rfl (ai rfl rfl) (ar (an ?_)))))))))
  refine ax rfl (fun e=> ?_) (fun _=> ?_)
  ·exfalso;simp at e;omega
  (refine ak (ah (aa rfl (aG rfl rfl rfl rfl) (aa rfl (ai rfl rfl) (ar (an ?_))))))
  refine ax rfl (fun _=> ?_) (fun e=> ?_)
  rotate_left
  ·exfalso;simp at e;exact e hlast
  (refine ak (ah (aa rfl (ai rfl rfl) (ar (an (aB ?_))))))
  have hw2:IntKind.i64.wrap (2 * ((m:Int) + 1))=2 * ((m:Int) + 1):=IntWalk.i64_in _ ae
  refine bz (fun k:Nat=>St.of [(3,vv (I6 ((m:Int) + 1))),(6,o1 (.sl 65 0 k)),(8,vv (I6 (2 + 2 * (k:Int))))] [(65,bG (gm k 2))]) (fun k=>k≤m + 1) (fun k=>m + 1 - k) 0 (Nat.zero_le _) (Wk.of ⟨rfl,rfl,rfl,ag⟩ ⟨rfl,ag⟩ trivial) ?_
  rintro k hk
  have hwa:IntKind.i64.wrap (2 + 2 * (k:Int) + 2)=2 + 2 * ((k + 1:Nat):Int):=(IntWalk.i64_in _ ae).trans ae
  (refine ak (ak (ah (aa rfl (aj rfl rfl) (aa rfl (aj rfl rfl) (aa rfl (dV rfl rfl rfl hw2) ?_)))));refine aa rfl (aG rfl rfl rfl rfl) (ar (an ?_)))
  refine bK rfl (fun hlt=> ?_) (fun hlt=> ?_)
  ·(refine aE (an (ak (aB (ah (aa rfl (aj rfl rfl) (aa rfl (aj rfl rfl) ?_))))));apply aa rfl;(exact bW (E:=2) rfl ab rfl);apply aa rfl;(first | exact aP rfl rfl rfl hwa | exact bE rfl ab rfl rfl rfl (dt _ _) rfl rfl ae);refine aa rfl (ai rfl rfl) (ar (aM (an (ah (aa rfl (aj rfl rfl) ?_)))));apply aa rfl;(first | exact aP rfl rfl rfl hwa | exact bE rfl ab rfl rfl rfl (dt _ _) rfl rfl ae);refine aa rfl (ai rfl rfl) (ar ?_))
   exact aW (k + 1) ae ae (Wk.of ⟨rfl,rfl,rfl,ag⟩ ⟨by rw [jt];rfl,ag⟩ trivial)
  ·obtain rfl:k=m + 1:=by omega
   (refine a7 (aA (aA (aT (aM (an (ak (ah (aa rfl (aj rfl rfl) (aa rfl (ai rfl rfl) (ar (an ?_)))))))))));refine aS ?_)
   exact bu (.inl rfl) rfl (.tmp rfl) ⟨rfl,ag⟩ trivial
theorem zT (zss:List (List Int)) (i m:Nat) (labs:List Int) (hi:i < zss.length) (hlb:bn zss i=labs) (hm:labs.length=m) (hm4:m≤4) (h0:0 < m) (hq:¬(m=1∧0 < aC labs 0)) (e1:bQ labs [3,5]=false) (e2:bQ labs [3,3,5]=false) (e3:bQ labs [3,4,3]=false) (h2:2≤m) (hA:aC labs 0=3) (ht:fE labs=true) (hlast:aC (ends labs) (labs.length - 1)≠3∧aC (ends labs) (labs.length - 1)≠4):
  FC Tryz.prog 116 [(1000,a6 zss)] [o1 (.esl 1000 i 0 m)] [(65,bG [])] (o1 (.sl 65 0 0)) []:=by
 have hrow:(bV zss)[i]? =some (aL labs):=by rw [←hlb];exact cf hi
 have hilm:m≤(aL labs).length:=by rw [bc,hm];exact Nat.le_refl _
 have hE1:=(bM zss i m 2 labs [3,5] hi hlb hm rfl ae ae).nm [(1000,1000),(1001,31)] (by kernel_rfl)
 have hE1:FC Tryz.prog 142 [(1000,a6 zss),(31,dk [3,5])] [o1 (.esl 1000 i 0 m),o1 (.sl 31 0 2)] [] (vv (.bool (bQ labs [3,5]))) []:=hE1
 rw [e1] at hE1
 have hE2:=(bM zss i m 3 labs [3,3,5] hi hlb hm rfl ae ae).nm [(1000,1000),(1001,36)] (by kernel_rfl)
 have hE2:FC Tryz.prog 142 [(1000,a6 zss),(36,dk [3,3,5])] [o1 (.esl 1000 i 0 m),o1 (.sl 36 0 3)] [] (vv (.bool (bQ labs [3,3,5]))) []:=hE2
 rw [e2] at hE2
 have hE3:=(bM zss i m 3 labs [3,4,3] hi hlb hm rfl ae ae).nm [(1000,1000),(1001,41)] (by kernel_rfl)
 have hE3:FC Tryz.prog 142 [(1000,a6 zss),(41,dk [3,4,3])] [o1 (.esl 1000 i 0 m),o1 (.sl 41 0 3)] [] (vv (.bool (bQ labs [3,4,3]))) []:=hE3
 rw [e3] at hE3
 refine bj (nt:=97) Tryz.func116 rfl rfl (by simp) fun w0 ω0=> ?_
 have hgl:(aL labs)[0]? =some (I6 (aC labs 0)):=bl ae
 have hE:ends labs=labs:=by unfold ends;rw [if_pos hA]
 have hw1:IntKind.i64.wrap ((m:Int) + 1)=(m:Int) + 1:=IntWalk.i64_in _ ae
 (refine ak (ah (aa rfl (ai rfl rfl) (ar (an (ak (ah (aa rfl (aj rfl rfl) (aa rfl (bw rfl rfl rfl ab) ?_))))))));apply aa rfl;exact aP rfl rfl rfl hw1;refine aa rfl (ai rfl rfl) (ar (an (ak (aB (ak (ah (aa rfl (aj rfl rfl) (aa rfl (aG rfl rfl rfl rfl) (aa rfl (ai rfl rfl) (ar (an ?_))))))))))))
 refine ax rfl (fun e=> ?_) (fun _=> ?_)
 ·exfalso;simp at e;omega
 (repeat (first | refine ak ?_ | refine an ?_ | refine aE ?_ | refine aB ?_ | refine aM ?_ | refine a7 ?_ | refine aT ?_ | refine cQ rfl ?_ | refine aA ?_))
 refine cW (St.of [(0,o1 (.esl 1000 i 0 m)),(3,vv (I6 ((m:Int) + 1))),(16,vv (.bool false))] [(1000,a6 zss)]) ?_ ?_
 ·refine ah ?_
  (refine aa rfl (aj rfl rfl) (aa rfl (aG rfl rfl rfl rfl) (aa rfl (aj rfl rfl) ?_)))
  refine bS 19 rfl (fun e1=> ?_) (fun e1=> ?_)
  ·have e1:m=1:=by simp at e1;omega
   have hg2:¬aC labs 0 > 0:=fun h=>hq ⟨e1,h⟩
   have hgl:(aL labs)[0]? =some (I6 (aC labs 0)):=bl ae
   have hbf:eB .i64 .gtr (aC labs 0) 0=some (.bool false):=by simp [eB];omega
   (apply aH rfl rfl rfl;exact aj rfl rfl;apply aH rfl rfl rfl;(first | exact aG rfl rfl rfl hbf | exact bd (j:=0) rfl rfl rfl rfl rfl ab hrow rfl ae hilm | exact a5 rfl ab rfl rfl rfl hrow hgl);apply aH rfl rfl rfl;(first | exact aG rfl rfl rfl hbf | exact bd (j:=0) rfl rfl rfl rfl rfl ab hrow rfl ae hilm | exact a5 rfl ab rfl rfl rfl hrow hgl);apply aH rfl rfl rfl;(first | exact aG rfl rfl rfl hbf | exact bd (j:=0) rfl rfl rfl rfl rfl ab hrow rfl ae hilm | exact a5 rfl ab rfl rfl rfl hrow hgl);refine aa rfl (bp rfl rfl rfl) (aa rfl (ai rfl rfl) (ar ?_)))
   exact aV (Wk.of ⟨rfl,rfl,rfl,ag⟩ ⟨rfl,ag⟩ trivial)
  ·(apply aD rfl rfl rfl rfl rfl;apply aD rfl rfl rfl rfl rfl;apply aD rfl rfl rfl rfl rfl;apply aD rfl rfl rfl rfl rfl;refine aa rfl (bD rfl rfl rfl) (aa rfl (ai rfl rfl) (ar ?_)))
   exact aV (Wk.of ⟨rfl,rfl,rfl,ag⟩ ⟨rfl,ag⟩ trivial)
 (refine an ?_)
 refine ax rfl (fun e=>by cases e) (fun _=> ?_)
 (refine ak (ah (aa rfl (aj rfl rfl) ?_));apply aa rfl;(exact cN (E:=2) rfl ab rfl rfl);apply aa rfl;(first | (apply au 142;exact aw hE1 ab rfl rfl ⟨rfl,rfl,ag⟩ ⟨⟨_,rfl, .inl rfl⟩,⟨_,rfl, .inr rfl⟩,ag⟩ rfl rfl) | exact aX (E:=2) rfl ab rfl rfl rfl | exact aY (E:=2) rfl ab rfl rfl rfl rfl);refine aa rfl (ai rfl rfl) (ar (an ?_)))
 refine ax rfl (fun e=>by cases e) (fun _=> ?_)
 (refine ak (ah (aa rfl (aj rfl rfl) ?_));apply aa rfl;(first | (apply au 142;exact aw hE2 ab rfl rfl ⟨rfl,rfl,ag⟩ ⟨⟨_,rfl, .inl rfl⟩,⟨_,rfl, .inr rfl⟩,ag⟩ rfl rfl) | exact aX (E:=2) rfl ab rfl rfl rfl | exact aY (E:=2) rfl ab rfl rfl rfl rfl);apply aa rfl;(first | (apply au 142;exact aw hE2 ab rfl rfl ⟨rfl,rfl,ag⟩ ⟨⟨_,rfl, .inl rfl⟩,⟨_,rfl, .inr rfl⟩,ag⟩ rfl rfl) | exact aX (E:=2) rfl ab rfl rfl rfl | exact aY (E:=2) rfl ab rfl rfl rfl rfl);refine aa rfl (ai rfl rfl) (ar (an ?_)))
 refine ax rfl (fun e=>by cases e) (fun _=> ?_)
 (refine ak (ah (aa rfl (aj rfl rfl) ?_));apply aa rfl;(first | (apply au 142;exact aw hE3 ab rfl rfl ⟨rfl,rfl,ag⟩ ⟨⟨_,rfl, .inl rfl⟩,⟨_,rfl, .inr rfl⟩,ag⟩ rfl rfl) | exact aX (E:=2) rfl ab rfl rfl rfl | exact aY (E:=2) rfl ab rfl rfl rfl rfl);apply aa rfl;(first | (apply au 142;exact aw hE3 ab rfl rfl ⟨rfl,rfl,ag⟩ ⟨⟨_,rfl, .inl rfl⟩,⟨_,rfl, .inr rfl⟩,ag⟩ rfl rfl) | exact aX (E:=2) rfl ab rfl rfl rfl | exact aY (E:=2) rfl ab rfl rfl rfl rfl);refine aa rfl (ai rfl rfl) (ar (an ?_)))
 refine ax rfl (fun e=>by cases e) (fun _=> ?_)
 (refine aE (aM (an (ak (ak (ah (aa rfl (aj rfl rfl) (aa rfl (aG rfl rfl rfl rfl) (ar (an ?_))))))))))
 refine ax rfl (fun e=> ?_) (fun _=> ?_)
 ·exfalso;simp at e;omega
 (refine aE (an (ak (ah (aa rfl (aj rfl rfl) (aa rfl (ai rfl rfl) (ar (an (ak (ak (ah (aa rfl (aj rfl rfl) ?_)))))))))));apply aa rfl;(first | exact bd (j:=0) rfl rfl rfl rfl rfl ab hrow rfl ae hilm | exact a5 rfl ab rfl rfl rfl hrow hgl);apply aa rfl;(first | exact bd (j:=0) rfl rfl rfl rfl rfl ab hrow rfl ae hilm | exact a5 rfl ab rfl rfl rfl hrow hgl);refine aa rfl (aG rfl rfl rfl rfl) (ar (an ?_)))
 refine ax rfl (fun e=> ?_) (fun e=> ?_)
 ·exfalso;simp at e;exact e hA
 (refine aE (an (ak (ak (ah (aa rfl (ai rfl rfl) (ar (an (aB ?_)))))))))
 refine bz (fun k:Nat=>St.of [(3,vv (I6 ((m:Int) + 1))),(4,o1 (.esl 1000 i 0 m)),(5,vv (I6 k))] [(1000,a6 zss)]) (fun k=>k≤m - 1∧∀q,q < k→aC (ends labs) q=3) (fun k=>m - k) 0 ⟨Nat.zero_le _,fun q h=>absurd h ae⟩ (Wk.of ⟨rfl,rfl,rfl,ag⟩ ⟨rfl,ag⟩ trivial) ?_
 rintro k ⟨hk,hq3⟩
 have hkm:k < m:=by omega
 have hgk:(aL labs)[k]? =some (I6 (aC (ends labs) k)):=by rw [hE];exact bl (by first | omega | (rw [List.length_reverse];omega))
 have hwk:IntKind.i64.wrap ((k:Int) + 1)=(k:Int) + 1:=IntWalk.i64_in _ ae
 (refine ak (ak (ah (aa rfl (aj rfl rfl) (aa rfl (aP rfl rfl rfl hwk) ?_))));refine aa rfl (aj rfl rfl) (aa rfl (bw rfl rfl rfl ab) ?_);refine aa rfl (aG rfl rfl rfl rfl) (ar (an ?_)))
 refine bK rfl (fun hlt=> ?_) (fun hlt=> ?_)
 ·(refine aE (an (ak (aB (ak (ah (aa rfl (aj rfl rfl) (aa rfl (aj rfl rfl) ?_)))))));apply aa rfl;(first | exact bd (j:=k) rfl rfl rfl rfl rfl ab hrow rfl hkm hilm | exact a5 rfl ab rfl rfl rfl hrow hgk);apply aa rfl;(first | exact bd (j:=k) rfl rfl rfl rfl rfl ab hrow rfl hkm hilm | exact a5 rfl ab rfl rfl rfl hrow hgk);refine aa rfl (aG rfl rfl rfl rfl) (ar (an ?_)))
  refine ax rfl (fun e=> ?_) (fun e=> ?_)
  ·exfalso
   have:=jx ht (k:=k) ae
   simp at e
   exact e this
  ·have e:aC (ends labs) k=3:=by simpa using e
   (refine aE (aM (an (ah (aa rfl (aj rfl rfl) (aa rfl (aP rfl rfl rfl hwk) ?_)))));refine aa rfl (ai rfl rfl) (ar ?_))
   exact aW (k + 1) ⟨ae,fun q h=>by
    by_cases e':q=k
    ·subst e';exact e
    ·exact hq3 q ae⟩ ae (Wk.of ⟨rfl,rfl,rfl,ag⟩ ⟨rfl,ag⟩ trivial)
 ·have hgm:(aL labs)[m - 1]? =some (I6 (aC (ends labs) (m - 1))):=by rw [hE];exact bl (by first | omega | (rw [List.length_reverse];omega))
  have hm1:(m:Int) - 1=((m - 1:Nat):Int):=by omega
  have hws:IntKind.i64.wrap ((m:Int) - 1)=(m:Int) - 1:=IntWalk.i64_in _ ae
  rw [hm] at hlast
  (refine a7 (aA (aA (aT (an (ak (ah ?_))))));apply aa rfl;(exact ey (E:=2) (k:=1) rfl ab);refine aa rfl (ai rfl rfl) (ar (an (ak (ak (ah (aa rfl (aj rfl rfl) (aa rfl (aj rfl rfl) (aa rfl (bw rfl rfl rfl ab) ?_))))))));apply aa rfl;(first | exact cg rfl rfl rfl hws | exact bd (j:=m - 1) rfl rfl rfl rfl rfl ab hrow hm1 ae hilm | exact a5 rfl ab rfl rfl rfl hrow hgm);apply aa rfl;(first | exact cg rfl rfl rfl hws | exact bd (j:=m - 1) rfl rfl rfl rfl rfl ab hrow hm1 ae hilm | exact a5 rfl ab rfl rfl rfl hrow hgm);apply aa rfl;(first | exact cg rfl rfl rfl hws | exact bd (j:=m - 1) rfl rfl rfl rfl rfl ab hrow hm1 ae hilm | exact a5 rfl ab rfl rfl rfl hrow hgm);refine ar (an (aB (ak (ah (aa rfl (aG rfl rfl rfl rfl) (aa rfl (ai rfl rfl) (ar (an ?_)))))))))
  refine ax rfl (fun e=> ?_) (fun _=> ?_)
  ·exfalso;simp at e;exact hlast.1 e
  (refine ak (ah (aa rfl (aG rfl rfl rfl rfl) (aa rfl (ai rfl rfl) (ar (an ?_))))))
  refine ax rfl (fun e=> ?_) (fun _=> ?_)
  ·exfalso;simp at e;exact hlast.2 e
  (refine aE (aM (an (ak (ah (aa rfl (aj rfl rfl) (aa rfl (ai rfl rfl) (ar (an (aS ?_))))))))))
  exact bu (.inl rfl) rfl (.tmp rfl) ⟨rfl,ag⟩ trivial
theorem zh (zss:List (List Int)) (i m:Nat) (labs:List Int) (hi:i < zss.length) (hlb:bn zss i=labs) (hm:labs.length=m) (hm4:m≤4) (h0:0 < m) (hq:¬(m=1∧0 < aC labs 0)) (e1:bQ labs [3,5]=false) (e2:bQ labs [3,3,5]=false) (e3:bQ labs [3,4,3]=false) (h2:2≤m) (hA:aC labs 0≠3) (ht:fE labs=false):
  FC Tryz.prog 116 [(1000,a6 zss)] [o1 (.esl 1000 i 0 m)] [] (vv (.slice none 0 0)) []:=by
 have hrow:(bV zss)[i]? =some (aL labs):=by rw [←hlb];exact cf hi
 have hilm:m≤(aL labs).length:=by rw [bc,hm];exact Nat.le_refl _
 have hE1:=(bM zss i m 2 labs [3,5] hi hlb hm rfl ae ae).nm [(1000,1000),(1001,31)] (by kernel_rfl)
 have hE1:FC Tryz.prog 142 [(1000,a6 zss),(31,dk [3,5])] [o1 (.esl 1000 i 0 m),o1 (.sl 31 0 2)] [] (vv (.bool (bQ labs [3,5]))) []:=hE1
 rw [e1] at hE1
 have hE2:=(bM zss i m 3 labs [3,3,5] hi hlb hm rfl ae ae).nm [(1000,1000),(1001,36)] (by kernel_rfl)
 have hE2:FC Tryz.prog 142 [(1000,a6 zss),(36,dk [3,3,5])] [o1 (.esl 1000 i 0 m),o1 (.sl 36 0 3)] [] (vv (.bool (bQ labs [3,3,5]))) []:=hE2
 rw [e2] at hE2
 have hE3:=(bM zss i m 3 labs [3,4,3] hi hlb hm rfl ae ae).nm [(1000,1000),(1001,41)] (by kernel_rfl)
 have hE3:FC Tryz.prog 142 [(1000,a6 zss),(41,dk [3,4,3])] [o1 (.esl 1000 i 0 m),o1 (.sl 41 0 3)] [] (vv (.bool (bQ labs [3,4,3]))) []:=hE3
 rw [e3] at hE3
 refine bj (nt:=97) Tryz.func116 rfl rfl (by simp) fun w0 ω0=> ?_
 have hgl:(aL labs)[0]? =some (I6 (aC labs 0)):=bl ae
 have hE:ends labs=labs.reverse:=by unfold ends;rw [if_neg hA]
 have hrl:labs.reverse.length=m:=by simpa using hm
 have hilr:m≤(aL labs.reverse).length:=by rw [bc,hrl];exact Nat.le_refl _
 have hTn:=jP 52 zss i hi (by rw [hlb];omega)
 rw [hlb,hm] at hTn
 have hw1:IntKind.i64.wrap ((m:Int) + 1)=(m:Int) + 1:=IntWalk.i64_in _ ae
 (refine ak (ah (aa rfl (ai rfl rfl) (ar (an (ak (ah (aa rfl (aj rfl rfl) (aa rfl (bw rfl rfl rfl ab) ?_))))))));apply aa rfl;exact aP rfl rfl rfl hw1;refine aa rfl (ai rfl rfl) (ar (an (ak (aB (ak (ah (aa rfl (aj rfl rfl) (aa rfl (aG rfl rfl rfl rfl) (aa rfl (ai rfl rfl) (ar (an ?_))))))))))))
 refine ax rfl (fun e=> ?_) (fun _=> ?_)
 ·exfalso;simp at e;omega
 (repeat (first | refine ak ?_ | refine an ?_ | refine aE ?_ | refine aB ?_ | refine aM ?_ | refine a7 ?_ | refine aT ?_ | refine cQ rfl ?_ | refine aA ?_))
 refine cW (St.of [(0,o1 (.esl 1000 i 0 m)),(3,vv (I6 ((m:Int) + 1))),(16,vv (.bool false))] [(1000,a6 zss)]) ?_ ?_
 ·refine ah ?_
  (refine aa rfl (aj rfl rfl) (aa rfl (aG rfl rfl rfl rfl) (aa rfl (aj rfl rfl) ?_)))
  refine bS 19 rfl (fun e1=> ?_) (fun e1=> ?_)
  ·have e1:m=1:=by simp at e1;omega
   have hg2:¬aC labs 0 > 0:=fun h=>hq ⟨e1,h⟩
   have hgl:(aL labs)[0]? =some (I6 (aC labs 0)):=bl ae
   have hbf:eB .i64 .gtr (aC labs 0) 0=some (.bool false):=by simp [eB];omega
   (apply aH rfl rfl rfl;exact aj rfl rfl;apply aH rfl rfl rfl;(first | exact aG rfl rfl rfl hbf | exact bd (j:=0) rfl rfl rfl rfl rfl ab hrow rfl ae hilm | exact a5 rfl ab rfl rfl rfl hrow hgl);apply aH rfl rfl rfl;(first | exact aG rfl rfl rfl hbf | exact bd (j:=0) rfl rfl rfl rfl rfl ab hrow rfl ae hilm | exact a5 rfl ab rfl rfl rfl hrow hgl);apply aH rfl rfl rfl;(first | exact aG rfl rfl rfl hbf | exact bd (j:=0) rfl rfl rfl rfl rfl ab hrow rfl ae hilm | exact a5 rfl ab rfl rfl rfl hrow hgl);refine aa rfl (bp rfl rfl rfl) (aa rfl (ai rfl rfl) (ar ?_)))
   exact aV (Wk.of ⟨rfl,rfl,rfl,ag⟩ ⟨rfl,ag⟩ trivial)
  ·(apply aD rfl rfl rfl rfl rfl;apply aD rfl rfl rfl rfl rfl;apply aD rfl rfl rfl rfl rfl;apply aD rfl rfl rfl rfl rfl;refine aa rfl (bD rfl rfl rfl) (aa rfl (ai rfl rfl) (ar ?_)))
   exact aV (Wk.of ⟨rfl,rfl,rfl,ag⟩ ⟨rfl,ag⟩ trivial)
 (refine an ?_)
 refine ax rfl (fun e=>by cases e) (fun _=> ?_)
 (refine ak (ah (aa rfl (aj rfl rfl) ?_));apply aa rfl;(exact cN (E:=2) rfl ab rfl rfl);apply aa rfl;(first | (apply au 142;exact aw hE1 ab rfl rfl ⟨rfl,rfl,ag⟩ ⟨⟨_,rfl, .inl rfl⟩,⟨_,rfl, .inr rfl⟩,ag⟩ rfl rfl) | exact aX (E:=2) rfl ab rfl rfl rfl | exact aY (E:=2) rfl ab rfl rfl rfl rfl);refine aa rfl (ai rfl rfl) (ar (an ?_)))
 refine ax rfl (fun e=>by cases e) (fun _=> ?_)
 (refine ak (ah (aa rfl (aj rfl rfl) ?_));apply aa rfl;(first | (apply au 142;exact aw hE2 ab rfl rfl ⟨rfl,rfl,ag⟩ ⟨⟨_,rfl, .inl rfl⟩,⟨_,rfl, .inr rfl⟩,ag⟩ rfl rfl) | exact aX (E:=2) rfl ab rfl rfl rfl | exact aY (E:=2) rfl ab rfl rfl rfl rfl);apply aa rfl;(first | (apply au 142;exact aw hE2 ab rfl rfl ⟨rfl,rfl,ag⟩ ⟨⟨_,rfl, .inl rfl⟩,⟨_,rfl, .inr rfl⟩,ag⟩ rfl rfl) | exact aX (E:=2) rfl ab rfl rfl rfl | exact aY (E:=2) rfl ab rfl rfl rfl rfl);refine aa rfl (ai rfl rfl) (ar (an ?_)))
 refine ax rfl (fun e=>by cases e) (fun _=> ?_)
 (refine ak (ah (aa rfl (aj rfl rfl) ?_));apply aa rfl;(first | (apply au 142;exact aw hE3 ab rfl rfl ⟨rfl,rfl,ag⟩ ⟨⟨_,rfl, .inl rfl⟩,⟨_,rfl, .inr rfl⟩,ag⟩ rfl rfl) | exact aX (E:=2) rfl ab rfl rfl rfl | exact aY (E:=2) rfl ab rfl rfl rfl rfl);apply aa rfl;(first | (apply au 142;exact aw hE3 ab rfl rfl ⟨rfl,rfl,ag⟩ ⟨⟨_,rfl, .inl rfl⟩,⟨_,rfl, .inr rfl⟩,ag⟩ rfl rfl) | exact aX (E:=2) rfl ab rfl rfl rfl | exact aY (E:=2) rfl ab rfl rfl rfl rfl);refine aa rfl (ai rfl rfl) (ar (an ?_)))
 refine ax rfl (fun e=>by cases e) (fun _=> ?_)
 (refine aE (aM (an (ak (ak (ah (aa rfl (aj rfl rfl) (aa rfl (aG rfl rfl rfl rfl) (ar (an ?_))))))))))
 refine ax rfl (fun e=> ?_) (fun _=> ?_)
 ·exfalso;simp at e;omega
 (refine aE (an (ak (ah (aa rfl (aj rfl rfl) (aa rfl (ai rfl rfl) (ar (an (ak (ak (ah (aa rfl (aj rfl rfl) ?_)))))))))));apply aa rfl;(first | exact bd (j:=0) rfl rfl rfl rfl rfl ab hrow rfl ae hilm | exact a5 rfl ab rfl rfl rfl hrow hgl);apply aa rfl;(first | exact bd (j:=0) rfl rfl rfl rfl rfl ab hrow rfl ae hilm | exact a5 rfl ab rfl rfl rfl hrow hgl);refine aa rfl (aG rfl rfl rfl rfl) (ar (an ?_)))
 refine ax rfl (fun e=> ?_) (fun e=> ?_)
 rotate_left
 ·exfalso;simp at e;exact hA e
 (refine ah (aa rfl (aj rfl rfl) ?_);apply aa rfl;(apply au 143;exact bg hTn ab rfl rfl ⟨rfl,ag⟩ ⟨⟨_,rfl, .inl rfl⟩,ag⟩ rfl rfl rfl);refine aa rfl (ai rfl rfl) (ar (an (ak (ak (ah (aa rfl (ai rfl rfl) (ar (an (aB ?_))))))))))
 refine bz (fun k:Nat=>St.of [(3,vv (I6 ((m:Int) + 1))),(4,o1 (.sl 52 0 m)),(5,vv (I6 k))] [(52,bG labs.reverse)]) (fun k=>k≤m - 1∧∀q,q < k→aC (ends labs) q=3) (fun k=>m - k) 0 ⟨Nat.zero_le _,fun q h=>absurd h ae⟩ (Wk.of ⟨rfl,rfl,rfl,ag⟩ ⟨rfl,ag⟩ trivial) ?_
 rintro k ⟨hk,hq3⟩
 have hkm:k < m:=by omega
 have hgk:(aL labs.reverse)[k]? =some (I6 (aC (ends labs) k)):=by rw [hE];exact bl (by first | omega | (rw [List.length_reverse];omega))
 have hwk:IntKind.i64.wrap ((k:Int) + 1)=(k:Int) + 1:=IntWalk.i64_in _ ae
 (refine ak (ak (ah (aa rfl (aj rfl rfl) (aa rfl (aP rfl rfl rfl hwk) ?_))));refine aa rfl (aj rfl rfl) (aa rfl (bw rfl rfl rfl ab) ?_);refine aa rfl (aG rfl rfl rfl rfl) (ar (an ?_)))
 refine bK rfl (fun hlt=> ?_) (fun hlt=> ?_)
 ·(refine aE (an (ak (aB (ak (ah (aa rfl (aj rfl rfl) (aa rfl (aj rfl rfl) ?_)))))));apply aa rfl;(first | exact aR (j:=k) rfl rfl rfl rfl rfl ab rfl hkm hilr | exact bf rfl ab rfl rfl rfl hgk);apply aa rfl;(first | exact aR (j:=k) rfl rfl rfl rfl rfl ab rfl hkm hilr | exact bf rfl ab rfl rfl rfl hgk);refine aa rfl (aG rfl rfl rfl rfl) (ar (an ?_)))
  refine ax rfl (fun e=> ?_) (fun e=> ?_)
  ·(refine ak (ah (aa rfl (ai rfl rfl) (ar (an (aS (bt (aO (aO (bt (aO ?_)))))))))))
   exact bu (.inl rfl) rfl (.tmp rfl) trivial trivial
  ·have e:aC (ends labs) k=3:=by simpa using e
   (refine aE (aM (an (ah (aa rfl (aj rfl rfl) (aa rfl (aP rfl rfl rfl hwk) ?_)))));refine aa rfl (ai rfl rfl) (ar ?_))
   exact aW (k + 1) ⟨ae,fun q h=>by
    by_cases e':q=k
    ·subst e';exact e
    ·exact hq3 q ae⟩ ae (Wk.of ⟨rfl,rfl,rfl,ag⟩ ⟨rfl,ag⟩ trivial)
 ·exfalso
  rw [ug (fun q h=>hq3 q ae)] at ht
  cases ht
theorem zy (zss:List (List Int)) (i m:Nat) (labs:List Int) (hi:i < zss.length) (hlb:bn zss i=labs) (hm:labs.length=m) (hm4:m≤4) (h0:0 < m) (hq:¬(m=1∧0 < aC labs 0)) (e1:bQ labs [3,5]=false) (e2:bQ labs [3,3,5]=false) (e3:bQ labs [3,4,3]=false) (h2:2≤m) (hA:aC labs 0≠3) (ht:fE labs=true) (hlast:aC (ends labs) (labs.length - 1)=3):
  FC Tryz.prog 116 [(1000,a6 zss)] [o1 (.esl 1000 i 0 m)] [(65,bG (gm (m + 1) 1))] (o1 (.sl 65 0 (m + 1))) []:=by
 have hrow:(bV zss)[i]? =some (aL labs):=by rw [←hlb];exact cf hi
 have hilm:m≤(aL labs).length:=by rw [bc,hm];exact Nat.le_refl _
 have hE1:=(bM zss i m 2 labs [3,5] hi hlb hm rfl ae ae).nm [(1000,1000),(1001,31)] (by kernel_rfl)
 have hE1:FC Tryz.prog 142 [(1000,a6 zss),(31,dk [3,5])] [o1 (.esl 1000 i 0 m),o1 (.sl 31 0 2)] [] (vv (.bool (bQ labs [3,5]))) []:=hE1
 rw [e1] at hE1
 have hE2:=(bM zss i m 3 labs [3,3,5] hi hlb hm rfl ae ae).nm [(1000,1000),(1001,36)] (by kernel_rfl)
 have hE2:FC Tryz.prog 142 [(1000,a6 zss),(36,dk [3,3,5])] [o1 (.esl 1000 i 0 m),o1 (.sl 36 0 3)] [] (vv (.bool (bQ labs [3,3,5]))) []:=hE2
 rw [e2] at hE2
 have hE3:=(bM zss i m 3 labs [3,4,3] hi hlb hm rfl ae ae).nm [(1000,1000),(1001,41)] (by kernel_rfl)
 have hE3:FC Tryz.prog 142 [(1000,a6 zss),(41,dk [3,4,3])] [o1 (.esl 1000 i 0 m),o1 (.sl 41 0 3)] [] (vv (.bool (bQ labs [3,4,3]))) []:=hE3
 rw [e3] at hE3
 refine bj (nt:=97) Tryz.func116 rfl rfl (by simp) fun w0 ω0=> ?_
 have hgl:(aL labs)[0]? =some (I6 (aC labs 0)):=bl ae
 have hE:ends labs=labs.reverse:=by unfold ends;rw [if_neg hA]
 have hrl:labs.reverse.length=m:=by simpa using hm
 have hilr:m≤(aL labs.reverse).length:=by rw [bc,hrl];exact Nat.le_refl _
 have hTn:=jP 52 zss i hi (by rw [hlb];omega)
 rw [hlb,hm] at hTn
 have hw1:IntKind.i64.wrap ((m:Int) + 1)=(m:Int) + 1:=IntWalk.i64_in _ ae
 (refine ak (ah (aa rfl (ai rfl rfl) (ar (an (ak (ah (aa rfl (aj rfl rfl) (aa rfl (bw rfl rfl rfl ab) ?_))))))));apply aa rfl;exact aP rfl rfl rfl hw1;refine aa rfl (ai rfl rfl) (ar (an (ak (aB (ak (ah (aa rfl (aj rfl rfl) (aa rfl (aG rfl rfl rfl rfl) (aa rfl (ai rfl rfl) (ar (an ?_))))))))))))
 refine ax rfl (fun e=> ?_) (fun _=> ?_)
 ·exfalso;simp at e;omega
 (repeat (first | refine ak ?_ | refine an ?_ | refine aE ?_ | refine aB ?_ | refine aM ?_ | refine a7 ?_ | refine aT ?_ | refine cQ rfl ?_ | refine aA ?_))
 refine cW (St.of [(0,o1 (.esl 1000 i 0 m)),(3,vv (I6 ((m:Int) + 1))),(16,vv (.bool false))] [(1000,a6 zss)]) ?_ ?_
 ·refine ah ?_
  (refine aa rfl (aj rfl rfl) (aa rfl (aG rfl rfl rfl rfl) (aa rfl (aj rfl rfl) ?_)))
  refine bS 19 rfl (fun e1=> ?_) (fun e1=> ?_)
  ·have e1:m=1:=by simp at e1;omega
   have hg2:¬aC labs 0 > 0:=fun h=>hq ⟨e1,h⟩
   have hgl:(aL labs)[0]? =some (I6 (aC labs 0)):=bl ae
   have hbf:eB .i64 .gtr (aC labs 0) 0=some (.bool false):=by simp [eB];omega
   (apply aH rfl rfl rfl;exact aj rfl rfl;apply aH rfl rfl rfl;(first | exact aG rfl rfl rfl hbf | exact bd (j:=0) rfl rfl rfl rfl rfl ab hrow rfl ae hilm | exact a5 rfl ab rfl rfl rfl hrow hgl);apply aH rfl rfl rfl;(first | exact aG rfl rfl rfl hbf | exact bd (j:=0) rfl rfl rfl rfl rfl ab hrow rfl ae hilm | exact a5 rfl ab rfl rfl rfl hrow hgl);apply aH rfl rfl rfl;(first | exact aG rfl rfl rfl hbf | exact bd (j:=0) rfl rfl rfl rfl rfl ab hrow rfl ae hilm | exact a5 rfl ab rfl rfl rfl hrow hgl);refine aa rfl (bp rfl rfl rfl) (aa rfl (ai rfl rfl) (ar ?_)))
   exact aV (Wk.of ⟨rfl,rfl,rfl,ag⟩ ⟨rfl,ag⟩ trivial)
  ·(apply aD rfl rfl rfl rfl rfl;apply aD rfl rfl rfl rfl rfl;apply aD rfl rfl rfl rfl rfl;apply aD rfl rfl rfl rfl rfl;refine aa rfl (bD rfl rfl rfl) (aa rfl (ai rfl rfl) (ar ?_)))
   exact aV (Wk.of ⟨rfl,rfl,rfl,ag⟩ ⟨rfl,ag⟩ trivial)
 (refine an ?_)
 refine ax rfl (fun e=>by cases e) (fun _=> ?_)
 (refine ak (ah (aa rfl (aj rfl rfl) ?_));apply aa rfl;(exact cN (E:=2) rfl ab rfl rfl);apply aa rfl;(first | (apply au 142;exact aw hE1 ab rfl rfl ⟨rfl,rfl,ag⟩ ⟨⟨_,rfl, .inl rfl⟩,⟨_,rfl, .inr rfl⟩,ag⟩ rfl rfl) | exact aX (E:=2) rfl ab rfl rfl rfl | exact aY (E:=2) rfl ab rfl rfl rfl rfl);refine aa rfl (ai rfl rfl) (ar (an ?_)))
 refine ax rfl (fun e=>by cases e) (fun _=> ?_)
 (refine ak (ah (aa rfl (aj rfl rfl) ?_));apply aa rfl;(first | (apply au 142;exact aw hE2 ab rfl rfl ⟨rfl,rfl,ag⟩ ⟨⟨_,rfl, .inl rfl⟩,⟨_,rfl, .inr rfl⟩,ag⟩ rfl rfl) | exact aX (E:=2) rfl ab rfl rfl rfl | exact aY (E:=2) rfl ab rfl rfl rfl rfl);apply aa rfl;(first | (apply au 142;exact aw hE2 ab rfl rfl ⟨rfl,rfl,ag⟩ ⟨⟨_,rfl, .inl rfl⟩,⟨_,rfl, .inr rfl⟩,ag⟩ rfl rfl) | exact aX (E:=2) rfl ab rfl rfl rfl | exact aY (E:=2) rfl ab rfl rfl rfl rfl);refine aa rfl (ai rfl rfl) (ar (an ?_)))
 refine ax rfl (fun e=>by cases e) (fun _=> ?_)
 (refine ak (ah (aa rfl (aj rfl rfl) ?_));apply aa rfl;(first | (apply au 142;exact aw hE3 ab rfl rfl ⟨rfl,rfl,ag⟩ ⟨⟨_,rfl, .inl rfl⟩,⟨_,rfl, .inr rfl⟩,ag⟩ rfl rfl) | exact aX (E:=2) rfl ab rfl rfl rfl | exact aY (E:=2) rfl ab rfl rfl rfl rfl);apply aa rfl;(first | (apply au 142;exact aw hE3 ab rfl rfl ⟨rfl,rfl,ag⟩ ⟨⟨_,rfl, .inl rfl⟩,⟨_,rfl, .inr rfl⟩,ag⟩ rfl rfl) | exact aX (E:=2) rfl ab rfl rfl rfl | exact aY (E:=2) rfl ab rfl rfl rfl rfl);refine aa rfl (ai rfl rfl) (ar (an ?_)))
 refine ax rfl (fun e=>by cases e) (fun _=> ?_)
 (refine aE (aM (an (ak (ak (ah (aa rfl (aj rfl rfl) (aa rfl (aG rfl rfl rfl rfl) (ar (an ?_))))))))))
 refine ax rfl (fun e=> ?_) (fun _=> ?_)
 ·exfalso;simp at e;omega
 (refine aE (an (ak (ah (aa rfl (aj rfl rfl) (aa rfl (ai rfl rfl) (ar (an (ak (ak (ah (aa rfl (aj rfl rfl) ?_)))))))))));apply aa rfl;(first | exact bd (j:=0) rfl rfl rfl rfl rfl ab hrow rfl ae hilm | exact a5 rfl ab rfl rfl rfl hrow hgl);apply aa rfl;(first | exact bd (j:=0) rfl rfl rfl rfl rfl ab hrow rfl ae hilm | exact a5 rfl ab rfl rfl rfl hrow hgl);refine aa rfl (aG rfl rfl rfl rfl) (ar (an ?_)))
 refine ax rfl (fun e=> ?_) (fun e=> ?_)
 rotate_left
 ·exfalso;simp at e;exact hA e
 (refine ah (aa rfl (aj rfl rfl) ?_);apply aa rfl;(apply au 143;exact bg hTn ab rfl rfl ⟨rfl,ag⟩ ⟨⟨_,rfl, .inl rfl⟩,ag⟩ rfl rfl rfl);refine aa rfl (ai rfl rfl) (ar (an (ak (ak (ah (aa rfl (ai rfl rfl) (ar (an (aB ?_))))))))))
 refine bz (fun k:Nat=>St.of [(3,vv (I6 ((m:Int) + 1))),(4,o1 (.sl 52 0 m)),(5,vv (I6 k))] [(52,bG labs.reverse)]) (fun k=>k≤m - 1∧∀q,q < k→aC (ends labs) q=3) (fun k=>m - k) 0 ⟨Nat.zero_le _,fun q h=>absurd h ae⟩ (Wk.of ⟨rfl,rfl,rfl,ag⟩ ⟨rfl,ag⟩ trivial) ?_
 rintro k ⟨hk,hq3⟩
 have hkm:k < m:=by omega
 have hgk:(aL labs.reverse)[k]? =some (I6 (aC (ends labs) k)):=by rw [hE];exact bl (by first | omega | (rw [List.length_reverse];omega))
 have hwk:IntKind.i64.wrap ((k:Int) + 1)=(k:Int) + 1:=IntWalk.i64_in _ ae
 (refine ak (ak (ah (aa rfl (aj rfl rfl) (aa rfl (aP rfl rfl rfl hwk) ?_))));refine aa rfl (aj rfl rfl) (aa rfl (bw rfl rfl rfl ab) ?_);refine aa rfl (aG rfl rfl rfl rfl) (ar (an ?_)))
 refine bK rfl (fun hlt=> ?_) (fun hlt=> ?_)
 ·(refine aE (an (ak (aB (ak (ah (aa rfl (aj rfl rfl) (aa rfl (aj rfl rfl) ?_)))))));apply aa rfl;(first | exact aR (j:=k) rfl rfl rfl rfl rfl ab rfl hkm hilr | exact bf rfl ab rfl rfl rfl hgk);apply aa rfl;(first | exact aR (j:=k) rfl rfl rfl rfl rfl ab rfl hkm hilr | exact bf rfl ab rfl rfl rfl hgk);refine aa rfl (aG rfl rfl rfl rfl) (ar (an ?_)))
  refine ax rfl (fun e=> ?_) (fun e=> ?_)
  ·exfalso
   have:=jx ht (k:=k) ae
   simp at e
   exact e this
  ·have e:aC (ends labs) k=3:=by simpa using e
   (refine aE (aM (an (ah (aa rfl (aj rfl rfl) (aa rfl (aP rfl rfl rfl hwk) ?_)))));refine aa rfl (ai rfl rfl) (ar ?_))
   exact aW (k + 1) ⟨ae,fun q h=>by
    by_cases e':q=k
    ·subst e';exact e
    ·exact hq3 q ae⟩ ae (Wk.of ⟨rfl,rfl,rfl,ag⟩ ⟨rfl,ag⟩ trivial)
 ·have hgm:(aL labs.reverse)[m - 1]? =some (I6 (aC (ends labs) (m - 1))):=by rw [hE];exact bl (by first | omega | (rw [List.length_reverse];omega))
  have hm1:(m:Int) - 1=((m - 1:Nat):Int):=by omega
  have hws:IntKind.i64.wrap ((m:Int) - 1)=(m:Int) - 1:=IntWalk.i64_in _ ae
  rw [hm] at hlast
  (refine a7 (aA (aA (aT (an (ak (ah ?_))))));apply aa rfl;(exact ey (E:=2) (k:=1) rfl ab);refine aa rfl (ai rfl rfl) (ar (an (ak (ak (ah (aa rfl (aj rfl rfl) (aa rfl (aj rfl rfl) (aa rfl (bw rfl rfl rfl ab) ?_))))))));apply aa rfl;(first | exact cg rfl rfl rfl hws | exact aR (j:=m - 1) rfl rfl rfl rfl rfl ab hm1 ae hilr | exact bf rfl ab rfl rfl rfl hgm);apply aa rfl;(first | exact cg rfl rfl rfl hws | exact aR (j:=m - 1) rfl rfl rfl rfl rfl ab hm1 ae hilr | exact bf rfl ab rfl rfl rfl hgm);apply aa rfl;(first | exact cg rfl rfl rfl hws | exact aR (j:=m - 1) rfl rfl rfl rfl rfl ab hm1 ae hilr | exact bf rfl ab rfl rfl rfl hgm);refine ar (an (aB (ak (ah (aa rfl (aG rfl rfl rfl rfl) (aa rfl (ai rfl rfl) (ar (an ?_)))))))))
  refine ax rfl (fun _=> ?_) (fun e=> ?_)
  rotate_left
  ·exfalso;simp at e;exact e hlast
  (refine ak (ah (aa rfl (ai rfl rfl) (ar (an (aB ?_))))))
  have hw2:IntKind.i64.wrap ((m:Int) + 1 + 1)=(m:Int) + 1 + 1:=IntWalk.i64_in _ ae
  refine bz (fun k:Nat=>St.of [(3,vv (I6 ((m:Int) + 1))),(6,o1 (.sl 65 0 k)),(7,vv (I6 (2 + 1 * (k:Int))))] [(65,bG (gm k 1))]) (fun k=>k≤m + 1) (fun k=>m + 1 - k) 0 (Nat.zero_le _) (Wk.of ⟨rfl,rfl,rfl,ag⟩ ⟨rfl,ag⟩ trivial) ?_
  rintro k hk
  have hwa:IntKind.i64.wrap (2 + 1 * (k:Int) + 1)=2 + 1 * ((k + 1:Nat):Int):=(IntWalk.i64_in _ ae).trans ae
  (refine ak (ak (ah (aa rfl (aj rfl rfl) (aa rfl (aj rfl rfl) (aa rfl (aP rfl rfl rfl hw2) ?_)))));refine aa rfl (aG rfl rfl rfl rfl) (ar (an ?_)))
  refine bK rfl (fun hlt=> ?_) (fun hlt=> ?_)
  ·(refine aE (an (ak (aB (ah (aa rfl (aj rfl rfl) (aa rfl (aj rfl rfl) ?_))))));apply aa rfl;(exact bW (E:=2) rfl ab rfl);apply aa rfl;(first | exact aP rfl rfl rfl hwa | exact bE rfl ab rfl rfl rfl (dt _ _) rfl rfl ae);refine aa rfl (ai rfl rfl) (ar (aM (an (ah (aa rfl (aj rfl rfl) ?_)))));apply aa rfl;(first | exact aP rfl rfl rfl hwa | exact bE rfl ab rfl rfl rfl (dt _ _) rfl rfl ae);refine aa rfl (ai rfl rfl) (ar ?_))
   exact aW (k + 1) ae ae (Wk.of ⟨rfl,rfl,rfl,ag⟩ ⟨by rw [jt];rfl,ag⟩ trivial)
  ·obtain rfl:k=m + 1:=by omega
   (refine a7 (aA (aA (aT (aM (an (ak (ah (aa rfl (aj rfl rfl) (aa rfl (ai rfl rfl) (ar (an ?_)))))))))));refine aS ?_)
   exact bu (.inl rfl) rfl (.tmp rfl) ⟨rfl,ag⟩ trivial
theorem zX (zss:List (List Int)) (i m:Nat) (labs:List Int) (hi:i < zss.length) (hlb:bn zss i=labs) (hm:labs.length=m) (hm4:m≤4) (h0:0 < m) (hq:¬(m=1∧0 < aC labs 0)) (e1:bQ labs [3,5]=false) (e2:bQ labs [3,3,5]=false) (e3:bQ labs [3,4,3]=false) (h2:2≤m) (hA:aC labs 0≠3) (ht:fE labs=true) (hlast:aC (ends labs) (labs.length - 1)=4):
  FC Tryz.prog 116 [(1000,a6 zss)] [o1 (.esl 1000 i 0 m)] [(65,bG (gm (m + 1) 2))] (o1 (.sl 65 0 (m + 1))) []:=by
 have hrow:(bV zss)[i]? =some (aL labs):=by rw [←hlb];exact cf hi
 have hilm:m≤(aL labs).length:=by rw [bc,hm];exact Nat.le_refl _
 have hE1:=(bM zss i m 2 labs [3,5] hi hlb hm rfl ae ae).nm [(1000,1000),(1001,31)] (by kernel_rfl)
 have hE1:FC Tryz.prog 142 [(1000,a6 zss),(31,dk [3,5])] [o1 (.esl 1000 i 0 m),o1 (.sl 31 0 2)] [] (vv (.bool (bQ labs [3,5]))) []:=hE1
 rw [e1] at hE1
 have hE2:=(bM zss i m 3 labs [3,3,5] hi hlb hm rfl ae ae).nm [(1000,1000),(1001,36)] (by kernel_rfl)
 have hE2:FC Tryz.prog 142 [(1000,a6 zss),(36,dk [3,3,5])] [o1 (.esl 1000 i 0 m),o1 (.sl 36 0 3)] [] (vv (.bool (bQ labs [3,3,5]))) []:=hE2
 rw [e2] at hE2
 have hE3:=(bM zss i m 3 labs [3,4,3] hi hlb hm rfl ae ae).nm [(1000,1000),(1001,41)] (by kernel_rfl)
 have hE3:FC Tryz.prog 142 [(1000,a6 zss),(41,dk [3,4,3])] [o1 (.esl 1000 i 0 m),o1 (.sl 41 0 3)] [] (vv (.bool (bQ labs [3,4,3]))) []:=hE3
 rw [e3] at hE3
 refine bj (nt:=97) Tryz.func116 rfl rfl (by simp) fun w0 ω0=> ?_
 have hgl:(aL labs)[0]? =some (I6 (aC labs 0)):=bl ae
 have hE:ends labs=labs.reverse:=by unfold ends;rw [if_neg hA]
 have hrl:labs.reverse.length=m:=by simpa using hm
 have hilr:m≤(aL labs.reverse).length:=by rw [bc,hrl];exact Nat.le_refl _
 have hTn:=jP 52 zss i hi (by rw [hlb];omega)
 rw [hlb,hm] at hTn
 have hw1:IntKind.i64.wrap ((m:Int) + 1)=(m:Int) + 1:=IntWalk.i64_in _ ae
 (refine ak (ah (aa rfl (ai rfl rfl) (ar (an (ak (ah (aa rfl (aj rfl rfl) (aa rfl (bw rfl rfl rfl ab) ?_))))))));apply aa rfl;exact aP rfl rfl rfl hw1;refine aa rfl (ai rfl rfl) (ar (an (ak (aB (ak (ah (aa rfl (aj rfl rfl) (aa rfl (aG rfl rfl rfl rfl) (aa rfl (ai rfl rfl) (ar (an ?_))))))))))))
 refine ax rfl (fun e=> ?_) (fun _=> ?_)
 ·exfalso;simp at e;omega
 (repeat (first | refine ak ?_ | refine an ?_ | refine aE ?_ | refine aB ?_ | refine aM ?_ | refine a7 ?_ | refine aT ?_ | refine cQ rfl ?_ | refine aA ?_))
 refine cW (St.of [(0,o1 (.esl 1000 i 0 m)),(3,vv (I6 ((m:Int) + 1))),(16,vv (.bool false))] [(1000,a6 zss)]) ?_ ?_
 ·refine ah ?_
  (refine aa rfl (aj rfl rfl) (aa rfl (aG rfl rfl rfl rfl) (aa rfl (aj rfl rfl) ?_)))
  refine bS 19 rfl (fun e1=> ?_) (fun e1=> ?_)
  ·have e1:m=1:=by simp at e1;omega
   have hg2:¬aC labs 0 > 0:=fun h=>hq ⟨e1,h⟩
   have hgl:(aL labs)[0]? =some (I6 (aC labs 0)):=bl ae
   have hbf:eB .i64 .gtr (aC labs 0) 0=some (.bool false):=by simp [eB];omega
   (apply aH rfl rfl rfl;exact aj rfl rfl;apply aH rfl rfl rfl;(first | exact aG rfl rfl rfl hbf | exact bd (j:=0) rfl rfl rfl rfl rfl ab hrow rfl ae hilm | exact a5 rfl ab rfl rfl rfl hrow hgl);apply aH rfl rfl rfl;(first | exact aG rfl rfl rfl hbf | exact bd (j:=0) rfl rfl rfl rfl rfl ab hrow rfl ae hilm | exact a5 rfl ab rfl rfl rfl hrow hgl);apply aH rfl rfl rfl;(first | exact aG rfl rfl rfl hbf | exact bd (j:=0) rfl rfl rfl rfl rfl ab hrow rfl ae hilm | exact a5 rfl ab rfl rfl rfl hrow hgl);refine aa rfl (bp rfl rfl rfl) (aa rfl (ai rfl rfl) (ar ?_)))
   exact aV (Wk.of ⟨rfl,rfl,rfl,ag⟩ ⟨rfl,ag⟩ trivial)
  ·(apply aD rfl rfl rfl rfl rfl;apply aD rfl rfl rfl rfl rfl;apply aD rfl rfl rfl rfl rfl;apply aD rfl rfl rfl rfl rfl;refine aa rfl (bD rfl rfl rfl) (aa rfl (ai rfl rfl) (ar ?_)))
   exact aV (Wk.of ⟨rfl,rfl,rfl,ag⟩ ⟨rfl,ag⟩ trivial)
 (refine an ?_)
 refine ax rfl (fun e=>by cases e) (fun _=> ?_)
 (refine ak (ah (aa rfl (aj rfl rfl) ?_));apply aa rfl;(exact cN (E:=2) rfl ab rfl rfl);apply aa rfl;(first | (apply au 142;exact aw hE1 ab rfl rfl ⟨rfl,rfl,ag⟩ ⟨⟨_,rfl, .inl rfl⟩,⟨_,rfl, .inr rfl⟩,ag⟩ rfl rfl) | exact aX (E:=2) rfl ab rfl rfl rfl | exact aY (E:=2) rfl ab rfl rfl rfl rfl);refine aa rfl (ai rfl rfl) (ar (an ?_)))
 refine ax rfl (fun e=>by cases e) (fun _=> ?_)
 (refine ak (ah (aa rfl (aj rfl rfl) ?_));apply aa rfl;(first | (apply au 142;exact aw hE2 ab rfl rfl ⟨rfl,rfl,ag⟩ ⟨⟨_,rfl, .inl rfl⟩,⟨_,rfl, .inr rfl⟩,ag⟩ rfl rfl) | exact aX (E:=2) rfl ab rfl rfl rfl | exact aY (E:=2) rfl ab rfl rfl rfl rfl);apply aa rfl;(first | (apply au 142;exact aw hE2 ab rfl rfl ⟨rfl,rfl,ag⟩ ⟨⟨_,rfl, .inl rfl⟩,⟨_,rfl, .inr rfl⟩,ag⟩ rfl rfl) | exact aX (E:=2) rfl ab rfl rfl rfl | exact aY (E:=2) rfl ab rfl rfl rfl rfl);refine aa rfl (ai rfl rfl) (ar (an ?_)))
 refine ax rfl (fun e=>by cases e) (fun _=> ?_)
 (refine ak (ah (aa rfl (aj rfl rfl) ?_));apply aa rfl;(first | (apply au 142;exact aw hE3 ab rfl rfl ⟨rfl,rfl,ag⟩ ⟨⟨_,rfl, .inl rfl⟩,⟨_,rfl, .inr rfl⟩,ag⟩ rfl rfl) | exact aX (E:=2) rfl ab rfl rfl rfl | exact aY (E:=2) rfl ab rfl rfl rfl rfl);apply aa rfl;(first | (apply au 142;exact aw hE3 ab rfl rfl ⟨rfl,rfl,ag⟩ ⟨⟨_,rfl, .inl rfl⟩,⟨_,rfl, .inr rfl⟩,ag⟩ rfl rfl) | exact aX (E:=2) rfl ab rfl rfl rfl | exact aY (E:=2) rfl ab rfl rfl rfl rfl);refine aa rfl (ai rfl rfl) (ar (an ?_)))
 refine ax rfl (fun e=>by cases e) (fun _=> ?_)
 (refine aE (aM (an (ak (ak (ah (aa rfl (aj rfl rfl) (aa rfl (aG rfl rfl rfl rfl) (ar (an ?_))))))))))
 refine ax rfl (fun e=> ?_) (fun _=> ?_)
 ·exfalso;simp at e;omega
 (refine aE (an (ak (ah (aa rfl (aj rfl rfl) (aa rfl (ai rfl rfl) (ar (an (ak (ak (ah (aa rfl (aj rfl rfl) ?_)))))))))));apply aa rfl;(first | exact bd (j:=0) rfl rfl rfl rfl rfl ab hrow rfl ae hilm | exact a5 rfl ab rfl rfl rfl hrow hgl);apply aa rfl;(first | exact bd (j:=0) rfl rfl rfl rfl rfl ab hrow rfl ae hilm | exact a5 rfl ab rfl rfl rfl hrow hgl);refine aa rfl (aG rfl rfl rfl rfl) (ar (an ?_)))
 refine ax rfl (fun e=> ?_) (fun e=> ?_)
 rotate_left
 ·exfalso;simp at e;exact hA e
 (refine ah (aa rfl (aj rfl rfl) ?_);apply aa rfl;(apply au 143;exact bg hTn ab rfl rfl ⟨rfl,ag⟩ ⟨⟨_,rfl, .inl rfl⟩,ag⟩ rfl rfl rfl);refine aa rfl (ai rfl rfl) (ar (an (ak (ak (ah (aa rfl (ai rfl rfl) (ar (an (aB ?_))))))))))
 refine bz (fun k:Nat=>St.of [(3,vv (I6 ((m:Int) + 1))),(4,o1 (.sl 52 0 m)),(5,vv (I6 k))] [(52,bG labs.reverse)]) (fun k=>k≤m - 1∧∀q,q < k→aC (ends labs) q=3) (fun k=>m - k) 0 ⟨Nat.zero_le _,fun q h=>absurd h ae⟩ (Wk.of ⟨rfl,rfl,rfl,ag⟩ ⟨rfl,ag⟩ trivial) ?_
 rintro k ⟨hk,hq3⟩
 have hkm:k < m:=by omega
 have hgk:(aL labs.reverse)[k]? =some (I6 (aC (ends labs) k)):=by rw [hE];exact bl (by first | omega | (rw [List.length_reverse];omega))
 have hwk:IntKind.i64.wrap ((k:Int) + 1)=(k:Int) + 1:=IntWalk.i64_in _ ae
 (refine ak (ak (ah (aa rfl (aj rfl rfl) (aa rfl (aP rfl rfl rfl hwk) ?_))));refine aa rfl (aj rfl rfl) (aa rfl (bw rfl rfl rfl ab) ?_);refine aa rfl (aG rfl rfl rfl rfl) (ar (an ?_)))
 refine bK rfl (fun hlt=> ?_) (fun hlt=> ?_)
 ·(refine aE (an (ak (aB (ak (ah (aa rfl (aj rfl rfl) (aa rfl (aj rfl rfl) ?_)))))));apply aa rfl;(first | exact aR (j:=k) rfl rfl rfl rfl rfl ab rfl hkm hilr | exact bf rfl ab rfl rfl rfl hgk);apply aa rfl;(first | exact aR (j:=k) rfl rfl rfl rfl rfl ab rfl hkm hilr | exact bf rfl ab rfl rfl rfl hgk);refine aa rfl (aG rfl rfl rfl rfl) (ar (an ?_)))
  refine ax rfl (fun e=> ?_) (fun e=> ?_)
  ·exfalso
   have:=jx ht (k:=k) ae
   simp at e
   exact e this
  ·have e:aC (ends labs) k=3:=by simpa using e
   (refine aE (aM (an (ah (aa rfl (aj rfl rfl) (aa rfl (aP rfl rfl rfl hwk) ?_)))));refine aa rfl (ai rfl rfl) (ar ?_))
   exact aW (k + 1) ⟨ae,fun q h=>by
    by_cases e':q=k
    ·subst e';exact e
    ·exact hq3 q ae⟩ ae (Wk.of ⟨rfl,rfl,rfl,ag⟩ ⟨rfl,ag⟩ trivial)
 ·have hgm:(aL labs.reverse)[m - 1]? =some (I6 (aC (ends labs) (m - 1))):=by rw [hE];exact bl (by first | omega | (rw [List.length_reverse];omega))
  have hm1:(m:Int) - 1=((m - 1:Nat):Int):=by omega
  have hws:IntKind.i64.wrap ((m:Int) - 1)=(m:Int) - 1:=IntWalk.i64_in _ ae
  rw [hm] at hlast
  (refine a7 (aA (aA (aT (an (ak (ah ?_))))));apply aa rfl;(exact ey (E:=2) (k:=1) rfl ab);refine aa rfl (ai rfl rfl) (ar (an (ak (ak (ah (aa rfl (aj rfl rfl) (aa rfl (aj rfl rfl) (aa rfl (bw rfl rfl rfl ab) ?_))))))));apply aa rfl;(first | exact cg rfl rfl rfl hws | exact aR (j:=m - 1) rfl rfl rfl rfl rfl ab hm1 ae hilr | exact bf rfl ab rfl rfl rfl hgm);apply aa rfl;(first | exact cg rfl rfl rfl hws | exact aR (j:=m - 1) rfl rfl rfl rfl rfl ab hm1 ae hilr | exact bf rfl ab rfl rfl rfl hgm);apply aa rfl;(first | exact cg rfl rfl rfl hws | exact aR (j:=m - 1) rfl rfl rfl rfl rfl ab hm1 ae hilr | exact bf rfl ab rfl rfl rfl hgm);refine ar (an (aB (ak (ah (aa rfl (aG rfl rfl rfl rfl) (aa rfl (ai rfl rfl) (ar (an ?_)))))))))
  refine ax rfl (fun e=> ?_) (fun _=> ?_)
  ·exfalso;simp at e;omega
  (refine ak (ah (aa rfl (aG rfl rfl rfl rfl) (aa rfl (ai rfl rfl) (ar (an ?_))))))
  refine ax rfl (fun _=> ?_) (fun e=> ?_)
  rotate_left
  ·exfalso;simp at e;exact e hlast
  (refine ak (ah (aa rfl (ai rfl rfl) (ar (an (aB ?_))))))
  have hw2:IntKind.i64.wrap (2 * ((m:Int) + 1))=2 * ((m:Int) + 1):=IntWalk.i64_in _ ae
  refine bz (fun k:Nat=>St.of [(3,vv (I6 ((m:Int) + 1))),(6,o1 (.sl 65 0 k)),(8,vv (I6 (2 + 2 * (k:Int))))] [(65,bG (gm k 2))]) (fun k=>k≤m + 1) (fun k=>m + 1 - k) 0 (Nat.zero_le _) (Wk.of ⟨rfl,rfl,rfl,ag⟩ ⟨rfl,ag⟩ trivial) ?_
  rintro k hk
  have hwa:IntKind.i64.wrap (2 + 2 * (k:Int) + 2)=2 + 2 * ((k + 1:Nat):Int):=(IntWalk.i64_in _ ae).trans ae
  (refine ak (ak (ah (aa rfl (aj rfl rfl) (aa rfl (aj rfl rfl) (aa rfl (dV rfl rfl rfl hw2) ?_)))));refine aa rfl (aG rfl rfl rfl rfl) (ar (an ?_)))
  refine bK rfl (fun hlt=> ?_) (fun hlt=> ?_)
  ·(refine aE (an (ak (aB (ah (aa rfl (aj rfl rfl) (aa rfl (aj rfl rfl) ?_))))));apply aa rfl;(exact bW (E:=2) rfl ab rfl);apply aa rfl;(first | exact aP rfl rfl rfl hwa | exact bE rfl ab rfl rfl rfl (dt _ _) rfl rfl ae);refine aa rfl (ai rfl rfl) (ar (aM (an (ah (aa rfl (aj rfl rfl) ?_)))));apply aa rfl;(first | exact aP rfl rfl rfl hwa | exact bE rfl ab rfl rfl rfl (dt _ _) rfl rfl ae);refine aa rfl (ai rfl rfl) (ar ?_))
   exact aW (k + 1) ae ae (Wk.of ⟨rfl,rfl,rfl,ag⟩ ⟨by rw [jt];rfl,ag⟩ trivial)
  ·obtain rfl:k=m + 1:=by omega
   (refine a7 (aA (aA (aT (aM (an (ak (ah (aa rfl (aj rfl rfl) (aa rfl (ai rfl rfl) (ar (an ?_)))))))))));refine aS ?_)
   exact bu (.inl rfl) rfl (.tmp rfl) ⟨rfl,ag⟩ trivial
theorem zn (zss:List (List Int)) (i m:Nat) (labs:List Int) (hi:i < zss.length) (hlb:bn zss i=labs) (hm:labs.length=m) (hm4:m≤4) (h0:0 < m) (hq:¬(m=1∧0 < aC labs 0)) (e1:bQ labs [3,5]=false) (e2:bQ labs [3,3,5]=false) (e3:bQ labs [3,4,3]=false) (h2:2≤m) (hA:aC labs 0≠3) (ht:fE labs=true) (hlast:aC (ends labs) (labs.length - 1)≠3∧aC (ends labs) (labs.length - 1)≠4):
  FC Tryz.prog 116 [(1000,a6 zss)] [o1 (.esl 1000 i 0 m)] [(65,bG [])] (o1 (.sl 65 0 0)) []:=by
 have hrow:(bV zss)[i]? =some (aL labs):=by rw [←hlb];exact cf hi
 have hilm:m≤(aL labs).length:=by rw [bc,hm];exact Nat.le_refl _
 have hE1:=(bM zss i m 2 labs [3,5] hi hlb hm rfl ae ae).nm [(1000,1000),(1001,31)] (by kernel_rfl)
 have hE1:FC Tryz.prog 142 [(1000,a6 zss),(31,dk [3,5])] [o1 (.esl 1000 i 0 m),o1 (.sl 31 0 2)] [] (vv (.bool (bQ labs [3,5]))) []:=hE1
 rw [e1] at hE1
 have hE2:=(bM zss i m 3 labs [3,3,5] hi hlb hm rfl ae ae).nm [(1000,1000),(1001,36)] (by kernel_rfl)
 have hE2:FC Tryz.prog 142 [(1000,a6 zss),(36,dk [3,3,5])] [o1 (.esl 1000 i 0 m),o1 (.sl 36 0 3)] [] (vv (.bool (bQ labs [3,3,5]))) []:=hE2
 rw [e2] at hE2
 have hE3:=(bM zss i m 3 labs [3,4,3] hi hlb hm rfl ae ae).nm [(1000,1000),(1001,41)] (by kernel_rfl)
 have hE3:FC Tryz.prog 142 [(1000,a6 zss),(41,dk [3,4,3])] [o1 (.esl 1000 i 0 m),o1 (.sl 41 0 3)] [] (vv (.bool (bQ labs [3,4,3]))) []:=hE3
 rw [e3] at hE3
 refine bj (nt:=97) Tryz.func116 rfl rfl (by simp) fun w0 ω0=> ?_
 have hgl:(aL labs)[0]? =some (I6 (aC labs 0)):=bl ae
 have hE:ends labs=labs.reverse:=by unfold ends;rw [if_neg hA]
 have hrl:labs.reverse.length=m:=by simpa using hm
 have hilr:m≤(aL labs.reverse).length:=by rw [bc,hrl];exact Nat.le_refl _
 have hTn:=jP 52 zss i hi (by rw [hlb];omega)
 rw [hlb,hm] at hTn
 have hw1:IntKind.i64.wrap ((m:Int) + 1)=(m:Int) + 1:=IntWalk.i64_in _ ae
 (refine ak (ah (aa rfl (ai rfl rfl) (ar (an (ak (ah (aa rfl (aj rfl rfl) (aa rfl (bw rfl rfl rfl ab) ?_))))))));apply aa rfl;exact aP rfl rfl rfl hw1;refine aa rfl (ai rfl rfl) (ar (an (ak (aB (ak (ah (aa rfl (aj rfl rfl) (aa rfl (aG rfl rfl rfl rfl) (aa rfl (ai rfl rfl) (ar (an ?_))))))))))))
 refine ax rfl (fun e=> ?_) (fun _=> ?_)
 ·exfalso;simp at e;omega
 (repeat (first | refine ak ?_ | refine an ?_ | refine aE ?_ | refine aB ?_ | refine aM ?_ | refine a7 ?_ | refine aT ?_ | refine cQ rfl ?_ | refine aA ?_))
 refine cW (St.of [(0,o1 (.esl 1000 i 0 m)),(3,vv (I6 ((m:Int) + 1))),(16,vv (.bool false))] [(1000,a6 zss)]) ?_ ?_
 ·refine ah ?_
  (refine aa rfl (aj rfl rfl) (aa rfl (aG rfl rfl rfl rfl) (aa rfl (aj rfl rfl) ?_)))
  refine bS 19 rfl (fun e1=> ?_) (fun e1=> ?_)
  ·have e1:m=1:=by simp at e1;omega
   have hg2:¬aC labs 0 > 0:=fun h=>hq ⟨e1,h⟩
   have hgl:(aL labs)[0]? =some (I6 (aC labs 0)):=bl ae
   have hbf:eB .i64 .gtr (aC labs 0) 0=some (.bool false):=by simp [eB];omega
   (apply aH rfl rfl rfl;exact aj rfl rfl;apply aH rfl rfl rfl;(first | exact aG rfl rfl rfl hbf | exact bd (j:=0) rfl rfl rfl rfl rfl ab hrow rfl ae hilm | exact a5 rfl ab rfl rfl rfl hrow hgl);apply aH rfl rfl rfl;(first | exact aG rfl rfl rfl hbf | exact bd (j:=0) rfl rfl rfl rfl rfl ab hrow rfl ae hilm | exact a5 rfl ab rfl rfl rfl hrow hgl);apply aH rfl rfl rfl;(first | exact aG rfl rfl rfl hbf | exact bd (j:=0) rfl rfl rfl rfl rfl ab hrow rfl ae hilm | exact a5 rfl ab rfl rfl rfl hrow hgl);refine aa rfl (bp rfl rfl rfl) (aa rfl (ai rfl rfl) (ar ?_)))
   exact aV (Wk.of ⟨rfl,rfl,rfl,ag⟩ ⟨rfl,ag⟩ trivial)
  ·(apply aD rfl rfl rfl rfl rfl;apply aD rfl rfl rfl rfl rfl;apply aD rfl rfl rfl rfl rfl;apply aD rfl rfl rfl rfl rfl;refine aa rfl (bD rfl rfl rfl) (aa rfl (ai rfl rfl) (ar ?_)))
   exact aV (Wk.of ⟨rfl,rfl,rfl,ag⟩ ⟨rfl,ag⟩ trivial)
 (refine an ?_)
 refine ax rfl (fun e=>by cases e) (fun _=> ?_)
 (refine ak (ah (aa rfl (aj rfl rfl) ?_));apply aa rfl;(exact cN (E:=2) rfl ab rfl rfl);apply aa rfl;(first | (apply au 142;exact aw hE1 ab rfl rfl ⟨rfl,rfl,ag⟩ ⟨⟨_,rfl, .inl rfl⟩,⟨_,rfl, .inr rfl⟩,ag⟩ rfl rfl) | exact aX (E:=2) rfl ab rfl rfl rfl | exact aY (E:=2) rfl ab rfl rfl rfl rfl);refine aa rfl (ai rfl rfl) (ar (an ?_)))
 refine ax rfl (fun e=>by cases e) (fun _=> ?_)
 (refine ak (ah (aa rfl (aj rfl rfl) ?_));apply aa rfl;(first | (apply au 142;exact aw hE2 ab rfl rfl ⟨rfl,rfl,ag⟩ ⟨⟨_,rfl, .inl rfl⟩,⟨_,rfl, .inr rfl⟩,ag⟩ rfl rfl) | exact aX (E:=2) rfl ab rfl rfl rfl | exact aY (E:=2) rfl ab rfl rfl rfl rfl);apply aa rfl;(first | (apply au 142;exact aw hE2 ab rfl rfl ⟨rfl,rfl,ag⟩ ⟨⟨_,rfl, .inl rfl⟩,⟨_,rfl, .inr rfl⟩,ag⟩ rfl rfl) | exact aX (E:=2) rfl ab rfl rfl rfl | exact aY (E:=2) rfl ab rfl rfl rfl rfl);refine aa rfl (ai rfl rfl) (ar (an ?_)))
 refine ax rfl (fun e=>by cases e) (fun _=> ?_)
 (refine ak (ah (aa rfl (aj rfl rfl) ?_));apply aa rfl;(first | (apply au 142;exact aw hE3 ab rfl rfl ⟨rfl,rfl,ag⟩ ⟨⟨_,rfl, .inl rfl⟩,⟨_,rfl, .inr rfl⟩,ag⟩ rfl rfl) | exact aX (E:=2) rfl ab rfl rfl rfl | exact aY (E:=2) rfl ab rfl rfl rfl rfl);apply aa rfl;(first | (apply au 142;exact aw hE3 ab rfl rfl ⟨rfl,rfl,ag⟩ ⟨⟨_,rfl, .inl rfl⟩,⟨_,rfl, .inr rfl⟩,ag⟩ rfl rfl) | exact aX (E:=2) rfl ab rfl rfl rfl | exact aY (E:=2) rfl ab rfl rfl rfl rfl);refine aa rfl (ai rfl rfl) (ar (an ?_)))
 refine ax rfl (fun e=>by cases e) (fun _=> ?_)
 (refine aE (aM (an (ak (ak (ah (aa rfl (aj rfl rfl) (aa rfl (aG rfl rfl rfl rfl) (ar (an ?_))))))))))
 refine ax rfl (fun e=> ?_) (fun _=> ?_)
 ·exfalso;simp at e;omega
 (refine aE (an (ak (ah (aa rfl (aj rfl rfl) (aa rfl (ai rfl rfl) (ar (an (ak (ak (ah (aa rfl (aj rfl rfl) ?_)))))))))));apply aa rfl;(first | exact bd (j:=0) rfl rfl rfl rfl rfl ab hrow rfl ae hilm | exact a5 rfl ab rfl rfl rfl hrow hgl);apply aa rfl;(first | exact bd (j:=0) rfl rfl rfl rfl rfl ab hrow rfl ae hilm | exact a5 rfl ab rfl rfl rfl hrow hgl);refine aa rfl (aG rfl rfl rfl rfl) (ar (an ?_)))
 refine ax rfl (fun e=> ?_) (fun e=> ?_)
 rotate_left
 ·exfalso;simp at e;exact hA e
 (refine ah (aa rfl (aj rfl rfl) ?_);apply aa rfl;(apply au 143;exact bg hTn ab rfl rfl ⟨rfl,ag⟩ ⟨⟨_,rfl, .inl rfl⟩,ag⟩ rfl rfl rfl);refine aa rfl (ai rfl rfl) (ar (an (ak (ak (ah (aa rfl (ai rfl rfl) (ar (an (aB ?_))))))))))
 refine bz (fun k:Nat=>St.of [(3,vv (I6 ((m:Int) + 1))),(4,o1 (.sl 52 0 m)),(5,vv (I6 k))] [(52,bG labs.reverse)]) (fun k=>k≤m - 1∧∀q,q < k→aC (ends labs) q=3) (fun k=>m - k) 0 ⟨Nat.zero_le _,fun q h=>absurd h ae⟩ (Wk.of ⟨rfl,rfl,rfl,ag⟩ ⟨rfl,ag⟩ trivial) ?_
 rintro k ⟨hk,hq3⟩
 have hkm:k < m:=by omega
 have hgk:(aL labs.reverse)[k]? =some (I6 (aC (ends labs) k)):=by rw [hE];exact bl (by first | omega | (rw [List.length_reverse];omega))
 have hwk:IntKind.i64.wrap ((k:Int) + 1)=(k:Int) + 1:=IntWalk.i64_in _ ae
 (refine ak (ak (ah (aa rfl (aj rfl rfl) (aa rfl (aP rfl rfl rfl hwk) ?_))));refine aa rfl (aj rfl rfl) (aa rfl (bw rfl rfl rfl ab) ?_);refine aa rfl (aG rfl rfl rfl rfl) (ar (an ?_)))
 refine bK rfl (fun hlt=> ?_) (fun hlt=> ?_)
 ·(refine aE (an (ak (aB (ak (ah (aa rfl (aj rfl rfl) (aa rfl (aj rfl rfl) ?_)))))));apply aa rfl;(first | exact aR (j:=k) rfl rfl rfl rfl rfl ab rfl hkm hilr | exact bf rfl ab rfl rfl rfl hgk);apply aa rfl;(first | exact aR (j:=k) rfl rfl rfl rfl rfl ab rfl hkm hilr | exact bf rfl ab rfl rfl rfl hgk);refine aa rfl (aG rfl rfl rfl rfl) (ar (an ?_)))
  refine ax rfl (fun e=> ?_) (fun e=> ?_)
  ·exfalso
   have:=jx ht (k:=k) ae
   simp at e
   exact e this
  ·have e:aC (ends labs) k=3:=by simpa using e
   (refine aE (aM (an (ah (aa rfl (aj rfl rfl) (aa rfl (aP rfl rfl rfl hwk) ?_)))));refine aa rfl (ai rfl rfl) (ar ?_))
   exact aW (k + 1) ⟨ae,fun q h=>by
    by_cases e':q=k
    ·subst e';exact e
    ·exact hq3 q ae⟩ ae (Wk.of ⟨rfl,rfl,rfl,ag⟩ ⟨rfl,ag⟩ trivial)
 ·have hgm:(aL labs.reverse)[m - 1]? =some (I6 (aC (ends labs) (m - 1))):=by rw [hE];exact bl (by first | omega | (rw [List.length_reverse];omega))
  have hm1:(m:Int) - 1=((m - 1:Nat):Int):=by omega
  have hws:IntKind.i64.wrap ((m:Int) - 1)=(m:Int) - 1:=IntWalk.i64_in _ ae
  rw [hm] at hlast
  (refine a7 (aA (aA (aT (an (ak (ah ?_))))));apply aa rfl;(exact ey (E:=2) (k:=1) rfl ab);refine aa rfl (ai rfl rfl) (ar (an (ak (ak (ah (aa rfl (aj rfl rfl) (aa rfl (aj rfl rfl) (aa rfl (bw rfl rfl rfl ab) ?_))))))));apply aa rfl;(first | exact cg rfl rfl rfl hws | exact aR (j:=m - 1) rfl rfl rfl rfl rfl ab hm1 ae hilr | exact bf rfl ab rfl rfl rfl hgm);apply aa rfl;(first | exact cg rfl rfl rfl hws | exact aR (j:=m - 1) rfl rfl rfl rfl rfl ab hm1 ae hilr | exact bf rfl ab rfl rfl rfl hgm);apply aa rfl;(first | exact cg rfl rfl rfl hws | exact aR (j:=m - 1) rfl rfl rfl rfl rfl ab hm1 ae hilr | exact bf rfl ab rfl rfl rfl hgm);refine ar (an (aB (ak (ah (aa rfl (aG rfl rfl rfl rfl) (aa rfl (ai rfl rfl) (ar (an ?_)))))))))
  refine ax rfl (fun e=> ?_) (fun _=> ?_)
  ·exfalso;simp at e;exact hlast.1 e
  (refine ak (ah (aa rfl (aG rfl rfl rfl rfl) (aa rfl (ai rfl rfl) (ar (an ?_))))))
  refine ax rfl (fun e=> ?_) (fun _=> ?_)
  ·exfalso;simp at e;exact hlast.2 e
  (refine aE (aM (an (ak (ah (aa rfl (aj rfl rfl) (aa rfl (ai rfl rfl) (ar (an (aS ?_))))))))))
  exact bu (.inl rfl) rfl (.tmp rfl) ⟨rfl,ag⟩ trivial
theorem AU (zss:List (List Int)) (i m:Nat) (labs:List Int) (hi:i < zss.length) (hlb:bn zss i=labs) (hm:labs.length=m) (hm4:m≤4):
  (dA labs= []∧FC Tryz.prog 116 [(1000,a6 zss)] [o1 (.esl 1000 i 0 m)] [] (vv (.slice none 0 0)) [])∨FC Tryz.prog 116 [(1000,a6 zss)] [o1 (.esl 1000 i 0 m)] [(2100,bG (dA labs))] (o1 (.sl 2100 0 (dA labs).length)) []:=by
 unfold dA
 rw [hm]
 by_cases h0:m=0
 ·rw [if_pos h0]
  subst h0
  exact .inr ((Fb zss i 0 labs hi hlb hm hm4 rfl).nm [(1000,1000),(15,2100)] (by kernel_rfl))
 rw [if_neg h0]
 by_cases hq:m=1∧0 < aC labs 0
 ·rw [if_pos hq]
  obtain ⟨rfl,hp⟩:=hq
  exact .inr ((Dj zss i 1 labs hi hlb hm hm4 rfl hp).nm [(1000,1000),(28,2100)] (by kernel_rfl))
 rw [if_neg hq]
 have h0':0 < m:=by omega
 cases e1:bQ labs [3,5] with
 | true=>
  obtain rfl:m=2:=by rcases gf.1 e1 with rfl | rfl<;>exact hm.symm
  exact .inr ((Df zss i 2 labs hi hlb hm hm4 h0' hq e1).nm [(1000,1000),(33,2100)] (by kernel_rfl))
 | false=>
 cases e2:bQ labs [3,3,5] with
 | true=>
  obtain rfl:m=3:=by rcases gf.1 e2 with rfl | rfl<;>exact hm.symm
  exact .inr ((DF zss i 3 labs hi hlb hm hm4 h0' hq e1 e2).nm [(1000,1000),(38,2100)] (by kernel_rfl))
 | false=>
 cases e3:bQ labs [3,4,3] with
 | true=>
  obtain rfl:m=3:=by rcases gf.1 e3 with rfl | rfl<;>exact hm.symm
  exact .inr ((DC zss i 3 labs hi hlb hm hm4 h0' hq e1 e2 e3).nm [(1000,1000),(43,2100)] (by kernel_rfl))
 | false=>
 by_cases h1:m=1
 ·have hl:labs= [aC labs 0]:=by
   match labs,hm,h1 with
   | [a],_,_=>rfl
  have hz:¬0 < aC labs 0:=fun h=>hq ⟨h1,h⟩
  have e4:labs≠List.replicate m 3:=by
   rw [hl,h1];intro e;simp at e;omega
  have e5:bQ labs ((List.replicate m (3:Int)).set 0 4)=false:=by
   rw [hl,h1]
   cases h:bQ [aC labs 0] ((List.replicate 1 (3:Int)).set 0 4) with
   | false=>rfl
   | true=>
    rcases gf.1 h with h | h<;>(simp at h;omega)
  simp only [Bool.false_eq_true,if_false]
  rw [if_neg e4,e5]
  exact .inl ⟨rfl,E9 zss i m labs hi hlb hm hm4 h0' hq e1 e2 e3 h1⟩
 have h2:2≤m:=by omega
 have hte:=Eb (part:=labs) ae ae
 rw [hm] at hte
 simp only [Bool.false_eq_true,if_false]
 rw [←hte]
 unfold yK
 rw [hm]
 cases ht:fE labs with
 | false=>
  rw [if_neg (by simp)]
  refine .inl ⟨rfl, ?_⟩
  by_cases hA:aC labs 0=3
  ·exact zt zss i m labs hi hlb hm hm4 h0' hq e1 e2 e3 h2 hA ht
  ·exact zh zss i m labs hi hlb hm hm4 h0' hq e1 e2 e3 h2 hA ht
 | true=>
  rw [if_pos rfl]
  refine .inr ?_
  by_cases l3:aC (ends labs) (m - 1)=3
  ·rw [if_pos l3,dt]
   have l3':aC (ends labs) (labs.length - 1)=3:=by rw [hm];exact l3
   by_cases hA:aC labs 0=3
   ·exact (Aq zss i m labs hi hlb hm hm4 h0' hq e1 e2 e3 h2 hA ht l3').nm [(1000,1000),(65,2100)] (by kernel_rfl)
   ·exact (zy zss i m labs hi hlb hm hm4 h0' hq e1 e2 e3 h2 hA ht l3').nm [(1000,1000),(65,2100)] (by kernel_rfl)
  rw [if_neg l3]
  by_cases l4:aC (ends labs) (m - 1)=4
  ·rw [if_pos l4,dt]
   have l4':aC (ends labs) (labs.length - 1)=4:=by rw [hm];exact l4
   by_cases hA:aC labs 0=3
   ·exact (ze zss i m labs hi hlb hm hm4 h0' hq e1 e2 e3 h2 hA ht l4').nm [(1000,1000),(65,2100)] (by kernel_rfl)
   ·exact (zX zss i m labs hi hlb hm hm4 h0' hq e1 e2 e3 h2 hA ht l4').nm [(1000,1000),(65,2100)] (by kernel_rfl)
  rw [if_neg l4]
  have l':aC (ends labs) (labs.length - 1)≠3∧aC (ends labs) (labs.length - 1)≠4:=by rw [hm];exact ⟨l3,l4⟩
  by_cases hA:aC labs 0=3
  ·exact (zT zss i m labs hi hlb hm hm4 h0' hq e1 e2 e3 h2 hA ht l').nm [(1000,1000),(65,2100)] (by kernel_rfl)
  ·exact (zn zss i m labs hi hlb hm hm4 h0' hq e1 e2 e3 h2 hA ht l').nm [(1000,1000),(65,2100)] (by kernel_rfl)
theorem zv (zss:List (List Int)) (i m:Nat) (labs:List Int) (hi:i < zss.length) (hlb:bn zss i=labs) (hm:labs.length=m) (hm4:m≤4):
  FC Tryz.prog 120 [(1000,a6 zss)] [o1 (.esl 1000 i 0 m)] [] (vv (.bool (zk labs))) []:=by
 have hE0:=(bM zss i m 1 labs [0] hi hlb hm rfl ae ae).nm [(1000,1000),(1001,4)] (by kernel_rfl)
 have hE0:FC Tryz.prog 142 [(1000,a6 zss),(4,dk [0])] [o1 (.esl 1000 i 0 m),o1 (.sl 4 0 1)] [] (vv (.bool (bQ labs [0]))) []:=hE0
 have hE1:=(bM zss i m 2 labs [4,4] hi hlb hm rfl ae ae).nm [(1000,1000),(1001,8)] (by kernel_rfl)
 have hE1:FC Tryz.prog 142 [(1000,a6 zss),(8,dk [4,4])] [o1 (.esl 1000 i 0 m),o1 (.sl 8 0 2)] [] (vv (.bool (bQ labs [4,4]))) []:=hE1
 have hE2:=(bM zss i m 2 labs [3,6] hi hlb hm rfl ae ae).nm [(1000,1000),(1001,13)] (by kernel_rfl)
 have hE2:FC Tryz.prog 142 [(1000,a6 zss),(13,dk [3,6])] [o1 (.esl 1000 i 0 m),o1 (.sl 13 0 2)] [] (vv (.bool (bQ labs [3,6]))) []:=hE2
 have hE3:=(bM zss i m 3 labs [4,3,4] hi hlb hm rfl ae ae).nm [(1000,1000),(1001,18)] (by kernel_rfl)
 have hE3:FC Tryz.prog 142 [(1000,a6 zss),(18,dk [4,3,4])] [o1 (.esl 1000 i 0 m),o1 (.sl 18 0 3)] [] (vv (.bool (bQ labs [4,3,4]))) []:=hE3
 have hE4:=(bM zss i m 4 labs [3,4,3,3] hi hlb hm rfl ae ae).nm [(1000,1000),(1001,23)] (by kernel_rfl)
 have hE4:FC Tryz.prog 142 [(1000,a6 zss),(23,dk [3,4,3,3])] [o1 (.esl 1000 i 0 m),o1 (.sl 23 0 4)] [] (vv (.bool (bQ labs [3,4,3,3]))) []:=hE4
 have hE5:=(bM zss i m 4 labs [4,3,3,4] hi hlb hm rfl ae ae).nm [(1000,1000),(1001,28)] (by kernel_rfl)
 have hE5:FC Tryz.prog 142 [(1000,a6 zss),(28,dk [4,3,3,4])] [o1 (.esl 1000 i 0 m),o1 (.sl 28 0 4)] [] (vv (.bool (bQ labs [4,3,3,4]))) []:=hE5
 refine bj (nt:=31) Tryz.func120 rfl rfl (by simp) fun w0 ω0=> ?_
 unfold zk
 (refine ak (ah (aa rfl (ai rfl rfl) (ar (an (ak (ah (aa rfl (aj rfl rfl) ?_)))))));apply aa rfl;(exact bW (E:=2) rfl ab rfl);apply aa rfl;(first | (apply au 142;exact aw hE0 ab rfl rfl ⟨rfl,rfl,ag⟩ ⟨⟨_,rfl, .inl rfl⟩,⟨_,rfl, .inr rfl⟩,ag⟩ rfl rfl) | (apply au 142;exact aw hE1 ab rfl rfl ⟨rfl,rfl,ag⟩ ⟨⟨_,rfl, .inl rfl⟩,⟨_,rfl, .inr rfl⟩,ag⟩ rfl rfl) | (apply au 142;exact aw hE2 ab rfl rfl ⟨rfl,rfl,ag⟩ ⟨⟨_,rfl, .inl rfl⟩,⟨_,rfl, .inr rfl⟩,ag⟩ rfl rfl) | (apply au 142;exact aw hE3 ab rfl rfl ⟨rfl,rfl,ag⟩ ⟨⟨_,rfl, .inl rfl⟩,⟨_,rfl, .inr rfl⟩,ag⟩ rfl rfl) | (apply au 142;exact aw hE4 ab rfl rfl ⟨rfl,rfl,ag⟩ ⟨⟨_,rfl, .inl rfl⟩,⟨_,rfl, .inr rfl⟩,ag⟩ rfl rfl) | (apply au 142;exact aw hE5 ab rfl rfl ⟨rfl,rfl,ag⟩ ⟨⟨_,rfl, .inl rfl⟩,⟨_,rfl, .inr rfl⟩,ag⟩ rfl rfl) | exact aX (E:=2) rfl ab rfl rfl rfl | exact aY (E:=2) rfl ab rfl rfl rfl rfl);apply aa rfl;exact aj rfl rfl)
 refine bS 6 rfl (fun h=> ?_) (fun h=> ?_)
 ·rw [h]
  simp only [Bool.true_or]
  (apply aD rfl rfl rfl rfl rfl;apply aD rfl rfl rfl rfl rfl;apply aD rfl rfl rfl rfl rfl;refine aa rfl (bp rfl rfl rfl) (aa rfl (aj rfl rfl) ?_);apply aD rfl rfl rfl rfl rfl;apply aD rfl rfl rfl rfl rfl;apply aD rfl rfl rfl rfl rfl;refine aa rfl (bp rfl rfl rfl) (aa rfl (aj rfl rfl) ?_);apply aD rfl rfl rfl rfl rfl;apply aD rfl rfl rfl rfl rfl;apply aD rfl rfl rfl rfl rfl;refine aa rfl (bp rfl rfl rfl) (aa rfl (aj rfl rfl) ?_);apply aD rfl rfl rfl rfl rfl;apply aD rfl rfl rfl rfl rfl;apply aD rfl rfl rfl rfl rfl;refine aa rfl (bp rfl rfl rfl) (aa rfl (aj rfl rfl) ?_);apply aD rfl rfl rfl rfl rfl;apply aD rfl rfl rfl rfl rfl;apply aD rfl rfl rfl rfl rfl;refine aa rfl (bp rfl rfl rfl) (aa rfl (ai rfl rfl) (ar (an (aS ?_)))))
  exact bu (.inl rfl) rfl (.tmp rfl) trivial trivial
 rw [h,Bool.false_or]
 (apply aH rfl rfl rfl;exact aj rfl rfl;apply aH rfl rfl rfl;(exact cN (E:=2) rfl ab rfl rfl);apply aH rfl rfl rfl;(first | (apply au 142;exact aw hE0 ab rfl rfl ⟨rfl,rfl,ag⟩ ⟨⟨_,rfl, .inl rfl⟩,⟨_,rfl, .inr rfl⟩,ag⟩ rfl rfl) | (apply au 142;exact aw hE1 ab rfl rfl ⟨rfl,rfl,ag⟩ ⟨⟨_,rfl, .inl rfl⟩,⟨_,rfl, .inr rfl⟩,ag⟩ rfl rfl) | (apply au 142;exact aw hE2 ab rfl rfl ⟨rfl,rfl,ag⟩ ⟨⟨_,rfl, .inl rfl⟩,⟨_,rfl, .inr rfl⟩,ag⟩ rfl rfl) | (apply au 142;exact aw hE3 ab rfl rfl ⟨rfl,rfl,ag⟩ ⟨⟨_,rfl, .inl rfl⟩,⟨_,rfl, .inr rfl⟩,ag⟩ rfl rfl) | (apply au 142;exact aw hE4 ab rfl rfl ⟨rfl,rfl,ag⟩ ⟨⟨_,rfl, .inl rfl⟩,⟨_,rfl, .inr rfl⟩,ag⟩ rfl rfl) | (apply au 142;exact aw hE5 ab rfl rfl ⟨rfl,rfl,ag⟩ ⟨⟨_,rfl, .inl rfl⟩,⟨_,rfl, .inr rfl⟩,ag⟩ rfl rfl) | exact aX (E:=2) rfl ab rfl rfl rfl | exact aY (E:=2) rfl ab rfl rfl rfl rfl);refine aa rfl (bD rfl rfl rfl) (aa rfl (aj rfl rfl) ?_))
 refine bS 11 rfl (fun h=> ?_) (fun h=> ?_)
 ·rw [h]
  simp only [Bool.true_or]
  (apply aD rfl rfl rfl rfl rfl;apply aD rfl rfl rfl rfl rfl;apply aD rfl rfl rfl rfl rfl;refine aa rfl (bp rfl rfl rfl) (aa rfl (aj rfl rfl) ?_);apply aD rfl rfl rfl rfl rfl;apply aD rfl rfl rfl rfl rfl;apply aD rfl rfl rfl rfl rfl;refine aa rfl (bp rfl rfl rfl) (aa rfl (aj rfl rfl) ?_);apply aD rfl rfl rfl rfl rfl;apply aD rfl rfl rfl rfl rfl;apply aD rfl rfl rfl rfl rfl;refine aa rfl (bp rfl rfl rfl) (aa rfl (aj rfl rfl) ?_);apply aD rfl rfl rfl rfl rfl;apply aD rfl rfl rfl rfl rfl;apply aD rfl rfl rfl rfl rfl;refine aa rfl (bp rfl rfl rfl) (aa rfl (ai rfl rfl) (ar (an (aS ?_)))))
  exact bu (.inl rfl) rfl (.tmp rfl) trivial trivial
 rw [h,Bool.false_or]
 (apply aH rfl rfl rfl;exact aj rfl rfl;apply aH rfl rfl rfl;(exact cN (E:=2) rfl ab rfl rfl);apply aH rfl rfl rfl;(first | (apply au 142;exact aw hE0 ab rfl rfl ⟨rfl,rfl,ag⟩ ⟨⟨_,rfl, .inl rfl⟩,⟨_,rfl, .inr rfl⟩,ag⟩ rfl rfl) | (apply au 142;exact aw hE1 ab rfl rfl ⟨rfl,rfl,ag⟩ ⟨⟨_,rfl, .inl rfl⟩,⟨_,rfl, .inr rfl⟩,ag⟩ rfl rfl) | (apply au 142;exact aw hE2 ab rfl rfl ⟨rfl,rfl,ag⟩ ⟨⟨_,rfl, .inl rfl⟩,⟨_,rfl, .inr rfl⟩,ag⟩ rfl rfl) | (apply au 142;exact aw hE3 ab rfl rfl ⟨rfl,rfl,ag⟩ ⟨⟨_,rfl, .inl rfl⟩,⟨_,rfl, .inr rfl⟩,ag⟩ rfl rfl) | (apply au 142;exact aw hE4 ab rfl rfl ⟨rfl,rfl,ag⟩ ⟨⟨_,rfl, .inl rfl⟩,⟨_,rfl, .inr rfl⟩,ag⟩ rfl rfl) | (apply au 142;exact aw hE5 ab rfl rfl ⟨rfl,rfl,ag⟩ ⟨⟨_,rfl, .inl rfl⟩,⟨_,rfl, .inr rfl⟩,ag⟩ rfl rfl) | exact aX (E:=2) rfl ab rfl rfl rfl | exact aY (E:=2) rfl ab rfl rfl rfl rfl);refine aa rfl (bD rfl rfl rfl) (aa rfl (aj rfl rfl) ?_))
 refine bS 16 rfl (fun h=> ?_) (fun h=> ?_)
 ·rw [h]
  simp only [Bool.true_or]
  (apply aD rfl rfl rfl rfl rfl;apply aD rfl rfl rfl rfl rfl;apply aD rfl rfl rfl rfl rfl;refine aa rfl (bp rfl rfl rfl) (aa rfl (aj rfl rfl) ?_);apply aD rfl rfl rfl rfl rfl;apply aD rfl rfl rfl rfl rfl;apply aD rfl rfl rfl rfl rfl;refine aa rfl (bp rfl rfl rfl) (aa rfl (aj rfl rfl) ?_);apply aD rfl rfl rfl rfl rfl;apply aD rfl rfl rfl rfl rfl;apply aD rfl rfl rfl rfl rfl;refine aa rfl (bp rfl rfl rfl) (aa rfl (ai rfl rfl) (ar (an (aS ?_)))))
  exact bu (.inl rfl) rfl (.tmp rfl) trivial trivial
 rw [h,Bool.false_or]
 (apply aH rfl rfl rfl;exact aj rfl rfl;apply aH rfl rfl rfl;(first | (apply au 142;exact aw hE0 ab rfl rfl ⟨rfl,rfl,ag⟩ ⟨⟨_,rfl, .inl rfl⟩,⟨_,rfl, .inr rfl⟩,ag⟩ rfl rfl) | (apply au 142;exact aw hE1 ab rfl rfl ⟨rfl,rfl,ag⟩ ⟨⟨_,rfl, .inl rfl⟩,⟨_,rfl, .inr rfl⟩,ag⟩ rfl rfl) | (apply au 142;exact aw hE2 ab rfl rfl ⟨rfl,rfl,ag⟩ ⟨⟨_,rfl, .inl rfl⟩,⟨_,rfl, .inr rfl⟩,ag⟩ rfl rfl) | (apply au 142;exact aw hE3 ab rfl rfl ⟨rfl,rfl,ag⟩ ⟨⟨_,rfl, .inl rfl⟩,⟨_,rfl, .inr rfl⟩,ag⟩ rfl rfl) | (apply au 142;exact aw hE4 ab rfl rfl ⟨rfl,rfl,ag⟩ ⟨⟨_,rfl, .inl rfl⟩,⟨_,rfl, .inr rfl⟩,ag⟩ rfl rfl) | (apply au 142;exact aw hE5 ab rfl rfl ⟨rfl,rfl,ag⟩ ⟨⟨_,rfl, .inl rfl⟩,⟨_,rfl, .inr rfl⟩,ag⟩ rfl rfl) | exact aX (E:=2) rfl ab rfl rfl rfl | exact aY (E:=2) rfl ab rfl rfl rfl rfl);apply aH rfl rfl rfl;(first | (apply au 142;exact aw hE0 ab rfl rfl ⟨rfl,rfl,ag⟩ ⟨⟨_,rfl, .inl rfl⟩,⟨_,rfl, .inr rfl⟩,ag⟩ rfl rfl) | (apply au 142;exact aw hE1 ab rfl rfl ⟨rfl,rfl,ag⟩ ⟨⟨_,rfl, .inl rfl⟩,⟨_,rfl, .inr rfl⟩,ag⟩ rfl rfl) | (apply au 142;exact aw hE2 ab rfl rfl ⟨rfl,rfl,ag⟩ ⟨⟨_,rfl, .inl rfl⟩,⟨_,rfl, .inr rfl⟩,ag⟩ rfl rfl) | (apply au 142;exact aw hE3 ab rfl rfl ⟨rfl,rfl,ag⟩ ⟨⟨_,rfl, .inl rfl⟩,⟨_,rfl, .inr rfl⟩,ag⟩ rfl rfl) | (apply au 142;exact aw hE4 ab rfl rfl ⟨rfl,rfl,ag⟩ ⟨⟨_,rfl, .inl rfl⟩,⟨_,rfl, .inr rfl⟩,ag⟩ rfl rfl) | (apply au 142;exact aw hE5 ab rfl rfl ⟨rfl,rfl,ag⟩ ⟨⟨_,rfl, .inl rfl⟩,⟨_,rfl, .inr rfl⟩,ag⟩ rfl rfl) | exact aX (E:=2) rfl ab rfl rfl rfl | exact aY (E:=2) rfl ab rfl rfl rfl rfl);refine aa rfl (bD rfl rfl rfl) (aa rfl (aj rfl rfl) ?_))
 refine bS 21 rfl (fun h=> ?_) (fun h=> ?_)
 ·rw [h]
  simp only [Bool.true_or]
  (apply aD rfl rfl rfl rfl rfl;apply aD rfl rfl rfl rfl rfl;apply aD rfl rfl rfl rfl rfl;refine aa rfl (bp rfl rfl rfl) (aa rfl (aj rfl rfl) ?_);apply aD rfl rfl rfl rfl rfl;apply aD rfl rfl rfl rfl rfl;apply aD rfl rfl rfl rfl rfl;refine aa rfl (bp rfl rfl rfl) (aa rfl (ai rfl rfl) (ar (an (aS ?_)))))
  exact bu (.inl rfl) rfl (.tmp rfl) trivial trivial
 rw [h,Bool.false_or]
 (apply aH rfl rfl rfl;exact aj rfl rfl;apply aH rfl rfl rfl;(first | (apply au 142;exact aw hE0 ab rfl rfl ⟨rfl,rfl,ag⟩ ⟨⟨_,rfl, .inl rfl⟩,⟨_,rfl, .inr rfl⟩,ag⟩ rfl rfl) | (apply au 142;exact aw hE1 ab rfl rfl ⟨rfl,rfl,ag⟩ ⟨⟨_,rfl, .inl rfl⟩,⟨_,rfl, .inr rfl⟩,ag⟩ rfl rfl) | (apply au 142;exact aw hE2 ab rfl rfl ⟨rfl,rfl,ag⟩ ⟨⟨_,rfl, .inl rfl⟩,⟨_,rfl, .inr rfl⟩,ag⟩ rfl rfl) | (apply au 142;exact aw hE3 ab rfl rfl ⟨rfl,rfl,ag⟩ ⟨⟨_,rfl, .inl rfl⟩,⟨_,rfl, .inr rfl⟩,ag⟩ rfl rfl) | (apply au 142;exact aw hE4 ab rfl rfl ⟨rfl,rfl,ag⟩ ⟨⟨_,rfl, .inl rfl⟩,⟨_,rfl, .inr rfl⟩,ag⟩ rfl rfl) | (apply au 142;exact aw hE5 ab rfl rfl ⟨rfl,rfl,ag⟩ ⟨⟨_,rfl, .inl rfl⟩,⟨_,rfl, .inr rfl⟩,ag⟩ rfl rfl) | exact aX (E:=2) rfl ab rfl rfl rfl | exact aY (E:=2) rfl ab rfl rfl rfl rfl);apply aH rfl rfl rfl;(first | (apply au 142;exact aw hE0 ab rfl rfl ⟨rfl,rfl,ag⟩ ⟨⟨_,rfl, .inl rfl⟩,⟨_,rfl, .inr rfl⟩,ag⟩ rfl rfl) | (apply au 142;exact aw hE1 ab rfl rfl ⟨rfl,rfl,ag⟩ ⟨⟨_,rfl, .inl rfl⟩,⟨_,rfl, .inr rfl⟩,ag⟩ rfl rfl) | (apply au 142;exact aw hE2 ab rfl rfl ⟨rfl,rfl,ag⟩ ⟨⟨_,rfl, .inl rfl⟩,⟨_,rfl, .inr rfl⟩,ag⟩ rfl rfl) | (apply au 142;exact aw hE3 ab rfl rfl ⟨rfl,rfl,ag⟩ ⟨⟨_,rfl, .inl rfl⟩,⟨_,rfl, .inr rfl⟩,ag⟩ rfl rfl) | (apply au 142;exact aw hE4 ab rfl rfl ⟨rfl,rfl,ag⟩ ⟨⟨_,rfl, .inl rfl⟩,⟨_,rfl, .inr rfl⟩,ag⟩ rfl rfl) | (apply au 142;exact aw hE5 ab rfl rfl ⟨rfl,rfl,ag⟩ ⟨⟨_,rfl, .inl rfl⟩,⟨_,rfl, .inr rfl⟩,ag⟩ rfl rfl) | exact aX (E:=2) rfl ab rfl rfl rfl | exact aY (E:=2) rfl ab rfl rfl rfl rfl);refine aa rfl (bD rfl rfl rfl) (aa rfl (aj rfl rfl) ?_))
 refine bS 26 rfl (fun h=> ?_) (fun h=> ?_)
 ·rw [h]
  simp only [Bool.true_or]
  (apply aD rfl rfl rfl rfl rfl;apply aD rfl rfl rfl rfl rfl;apply aD rfl rfl rfl rfl rfl;refine aa rfl (bp rfl rfl rfl) (aa rfl (ai rfl rfl) (ar (an (aS ?_)))))
  exact bu (.inl rfl) rfl (.tmp rfl) trivial trivial
 rw [h,Bool.false_or]
 (apply aH rfl rfl rfl;exact aj rfl rfl;apply aH rfl rfl rfl;(first | (apply au 142;exact aw hE0 ab rfl rfl ⟨rfl,rfl,ag⟩ ⟨⟨_,rfl, .inl rfl⟩,⟨_,rfl, .inr rfl⟩,ag⟩ rfl rfl) | (apply au 142;exact aw hE1 ab rfl rfl ⟨rfl,rfl,ag⟩ ⟨⟨_,rfl, .inl rfl⟩,⟨_,rfl, .inr rfl⟩,ag⟩ rfl rfl) | (apply au 142;exact aw hE2 ab rfl rfl ⟨rfl,rfl,ag⟩ ⟨⟨_,rfl, .inl rfl⟩,⟨_,rfl, .inr rfl⟩,ag⟩ rfl rfl) | (apply au 142;exact aw hE3 ab rfl rfl ⟨rfl,rfl,ag⟩ ⟨⟨_,rfl, .inl rfl⟩,⟨_,rfl, .inr rfl⟩,ag⟩ rfl rfl) | (apply au 142;exact aw hE4 ab rfl rfl ⟨rfl,rfl,ag⟩ ⟨⟨_,rfl, .inl rfl⟩,⟨_,rfl, .inr rfl⟩,ag⟩ rfl rfl) | (apply au 142;exact aw hE5 ab rfl rfl ⟨rfl,rfl,ag⟩ ⟨⟨_,rfl, .inl rfl⟩,⟨_,rfl, .inr rfl⟩,ag⟩ rfl rfl) | exact aX (E:=2) rfl ab rfl rfl rfl | exact aY (E:=2) rfl ab rfl rfl rfl rfl);apply aH rfl rfl rfl;(first | (apply au 142;exact aw hE0 ab rfl rfl ⟨rfl,rfl,ag⟩ ⟨⟨_,rfl, .inl rfl⟩,⟨_,rfl, .inr rfl⟩,ag⟩ rfl rfl) | (apply au 142;exact aw hE1 ab rfl rfl ⟨rfl,rfl,ag⟩ ⟨⟨_,rfl, .inl rfl⟩,⟨_,rfl, .inr rfl⟩,ag⟩ rfl rfl) | (apply au 142;exact aw hE2 ab rfl rfl ⟨rfl,rfl,ag⟩ ⟨⟨_,rfl, .inl rfl⟩,⟨_,rfl, .inr rfl⟩,ag⟩ rfl rfl) | (apply au 142;exact aw hE3 ab rfl rfl ⟨rfl,rfl,ag⟩ ⟨⟨_,rfl, .inl rfl⟩,⟨_,rfl, .inr rfl⟩,ag⟩ rfl rfl) | (apply au 142;exact aw hE4 ab rfl rfl ⟨rfl,rfl,ag⟩ ⟨⟨_,rfl, .inl rfl⟩,⟨_,rfl, .inr rfl⟩,ag⟩ rfl rfl) | (apply au 142;exact aw hE5 ab rfl rfl ⟨rfl,rfl,ag⟩ ⟨⟨_,rfl, .inl rfl⟩,⟨_,rfl, .inr rfl⟩,ag⟩ rfl rfl) | exact aX (E:=2) rfl ab rfl rfl rfl | exact aY (E:=2) rfl ab rfl rfl rfl rfl);refine aa rfl (bD rfl rfl rfl) (aa rfl (ai rfl rfl) (ar (an (aS ?_)))))
 exact bu (.inl rfl) rfl (.tmp rfl) trivial trivial
end Go.Proofs.YtekbhbcgoadciaaGreat
