/- Coset enumeration: l11Run. guards: -/
import Derived.Test.YtekbhbcgoadciaaGreatPart4
import Derived.Test.YtekbhbcgoadciaaGreatPart2
import Derived.Test.YtekbhbcgoadciaaGreatPart3
set_option maxRecDepth 100000
set_option maxHeartbeats 6400000
namespace Go.Proofs.YtekbhbcgoadciaaGreat
open Go.RowKit
theorem uD (ng:Nat) (rels words:List (List Int)) (R m:Nat) (hR:rels.length=R) (hm:words.length=m) (hr:∀w∈rels,bB ng w) (hw:∀w∈words,bB ng w) (hng:ng≤1000) (hrl:∀w∈rels,w.length≤1000000000) (hwl:∀w∈words,w.length≤1000000000) (hR2:R≤1000000000) (hm2:m≤1000000000) (X:dR) (hX:cm ng rels words=X):
  FC Tryz.prog 154 [(1002,a6 words),(1003,a6 rels)] [.s (.agg [.val (I6 ng), .sl 1003 0 R]),o1 (.sl 1002 0 m)] [(1000,cT X.1),(1001,bG X.2.1)]
   (.s (.agg [.sl 1000 0 X.2.1.length, .sl 1001 0 X.2.1.length, .val (.bool X.2.2)])) []:=by
 refine bj (nt:=107) Tryz.func154 rfl rfl (by simp) fun w0 ω0=> ?_
 (refine ak (ah (aa rfl (cF rfl rfl rfl rfl) ?_));apply aa rfl;exact cL [.slice none 0 0, .slice none 0 0, .bool false] rfl ab;refine ar (an (ak (ah ?_)));apply aa rfl;exact Ak [.slice none 0 0, .slice none 0 0, .bool false] rfl ab;apply aa rfl;(exact aI (d:=0) rfl rfl rfl ab);apply aa rfl;exact aZ rfl ab rfl rfl rfl rfl)
 refine Aw (Bl (t:=14) (n:=1000) (k:=1) (E:=24) (d:= .rows 2 (bV []) []) 0 rfl rfl rfl rfl) ?_
 refine Aw (Bl (t:=14) (n:=1001) (k:=1) (E:=2) (d:= .bR (aL [])) 1 rfl rfl rfl rfl) ?_
 have hD:=n9 [] [] 0 0 ng false rfl rfl (by simp) hng (by simp)
 (apply aa rfl;(apply au 175;exact dc [] hD ab rfl rfl ⟨⟨.inl rfl, .inl rfl, .inl rfl,ag⟩,rfl,ag⟩ ⟨⟨_,rfl, .inl rfl⟩,⟨_,rfl, .inl rfl⟩,ag⟩ trivial rfl rfl);refine aa rfl (aj rfl rfl) (aa rfl (aN rfl rfl rfl) (aa rfl (aN rfl rfl rfl) ?_));apply aa rfl;exact cL [.slice none 0 0, .slice none 0 0, .bool false] rfl ab;apply aa rfl;exact br rfl rfl rfl rfl rfl rfl rfl rfl ab rfl;refine aa rfl (ai rfl rfl) (ar (an (ak (ak (ah (aa rfl (ai rfl rfl) (ar (an (aB ?_))))))))))
 refine bz (fun j:Nat×dR=>St.of [(1,o1 (.sl 1002 0 m)),(2,o1 (.ptr 2 0)),(4,o1 (.ptr 4 0)),(5,o1 (.ptr 5 0)),(7,vv (I6 j.1))] [(1000,cT j.2.1),(1001,bG j.2.2.1),(1002,a6 words),(1003,a6 rels),(2,⟨true,46,2, .flat [.val (I6 ng), .sl 1003 0 R]⟩),(4,⟨true,149,3, .flat [.val (.slice none 0 0), .val (.slice none 0 0), .val (.bool false)]⟩),(5,⟨true,149,3, .flat [.sl 1000 0 j.2.2.1.length, .sl 1001 0 j.2.2.1.length, .val (.bool j.2.2.2)]⟩)])
  (fun j=>j.1≤m∧(words.take j.1).foldl (dD ng) (dG ng)=j.2∧cD ng 1 j.2) (fun j=>m - j.1) (0,dG ng) ⟨Nat.zero_le _,rfl,jm ng⟩ (Wk.of ⟨rfl,rfl,rfl,rfl,rfl,ag⟩ ⟨rfl,rfl,rfl,rfl,rfl,rfl,rfl,ag⟩ trivial) ?_
 rintro ⟨j,M,N,b⟩ ⟨hj,hfo,hok⟩
 dsimp only at hj hfo ⊢
 repeat refine ak ?_
 refine cW (St.of [(1,o1 (.sl 1002 0 m)),(2,o1 (.ptr 2 0)),(4,o1 (.ptr 4 0)),(5,o1 (.ptr 5 0)),(7,vv (I6 j)),(28,vv (.bool (decide ((j:Int) < m) && !b)))] [(1000,cT M),(1001,bG N),(1002,a6 words),(1003,a6 rels),(2,⟨true,46,2, .flat [.val (I6 ng), .sl 1003 0 R]⟩),(4,⟨true,149,3, .flat [.val (.slice none 0 0), .val (.slice none 0 0), .val (.bool false)]⟩),(5,⟨true,149,3, .flat [.sl 1000 0 N.length, .sl 1001 0 N.length, .val (.bool b)]⟩)]) ?_ ?_
 ·(refine ah (aa rfl (aj rfl rfl) (aa rfl (aj rfl rfl) (aa rfl (bw rfl rfl rfl ab) ?_)));refine aa rfl (aG rfl rfl rfl rfl) (aa rfl (aj rfl rfl) ?_))
  refine bS 24 rfl (fun h=> ?_) (fun h=> ?_)
  ·(apply aH rfl rfl rfl;(exact aI (d:=2) rfl rfl rfl ab);apply aH rfl rfl rfl;exact aZ rfl ab rfl rfl rfl rfl;apply aH rfl rfl rfl;exact bU rfl rfl;refine aa rfl (bp rfl rfl rfl) (ar ?_))
   exact aV (Wk.of ⟨rfl,rfl,rfl,rfl,rfl,by rw [h];rfl,ag⟩ ⟨rfl,rfl,rfl,rfl,rfl,rfl,rfl,ag⟩ trivial)
  ·(apply aD rfl rfl rfl rfl rfl;apply aD rfl rfl rfl rfl rfl;apply aD rfl rfl rfl rfl rfl;refine aa rfl (bD rfl rfl rfl) (ar ?_))
   exact aV (Wk.of ⟨rfl,rfl,rfl,rfl,rfl,by rw [h];rfl,ag⟩ ⟨rfl,rfl,rfl,rfl,rfl,rfl,rfl,ag⟩ trivial)
 (refine an ?_)
 refine ax rfl (fun hc=> ?_) (fun hc=> ?_)
 ·obtain ⟨hlt,rfl⟩:j < m∧b=false:=by
   simp at hc;exact ⟨ae,hc.2⟩
  have hjw:j < words.length:=by omega
  obtain ⟨W,hW⟩:∃W,bn words j=W:=⟨_,rfl⟩
  have hWm:W∈words:=by rw [←hW];exact gb hjw
  obtain ⟨C,hC⟩:∃C,db ng M N 0 (W.map Int.toNat)=C:=⟨_,rfl⟩
  have hN0:0 < N.length:=hok.lo
  have hcl:=qp ng N.length M N 0 words j W.length W rfl hok.wf hN0 hok.hi hng hjw hW rfl (hwl W hWm) (hw W hWm) C hC
  have hfo':(words.take (j + 1)).foldl (dD ng) (dG ng)=C:=by
   rw [jq hjw,List.foldl_append,hfo,hW];exact hC
  have hok':cD ng 1 C:=by
   have:=kF (w:=W) hok ae (hw W hWm)
   unfold dD at this
   rw [if_neg (by simp)] at this
   rw [←hC];exact this
  have hrow:(bV words)[j]? =some (aL W):=by rw [←hW];exact cf hjw
  (refine aE ?_;refine an ?_;refine ak ?_;refine aB ?_)
  apply eE 5 [] [[], [], [], [1,2], [1,2,3], [0,1,2,3,4], [0,1,2,3,4,5]] [31,32,33,34,35] [] (by kernel_rfl) (by kernel_rfl)
  ·(apply aK rfl;(intro S1 hS;exact aU rfl (hS.op rfl) (hS.ch _ _ rfl) rfl rfl rfl ab);apply aK rfl;(intro S1 hS;exact aj rfl (hS.op rfl));apply aK rfl;(intro S1 hS;exact aj rfl (hS.op rfl));apply aK rfl;(intro S1 hS;exact aR rfl (hS.op rfl) (hS.op rfl) (hS.ch _ _ rfl) rfl ab a9 aJ a8);apply aK rfl;(intro S1 hS;exact bF rfl ab (hS.op rfl) (hS.ch _ _ rfl) rfl aQ c8);exact ft.nil)
  ·rfl
  ((apply aF 5 rfl ab rfl rfl;(apply au 176;exact dc [] hcl ab rfl rfl ⟨⟨.inl rfl, .inl rfl, .inl rfl,ag⟩,rfl,rfl,ag⟩ ⟨⟨_,rfl, .inl rfl⟩,⟨_,rfl, .inl rfl⟩,⟨_,rfl, .inl rfl⟩,ag⟩ trivial rfl rfl));(apply aF 6 rfl ab rfl rfl;exact br rfl rfl rfl rfl rfl rfl rfl rfl ab rfl);(refine bh ab ?_;skip))
  (refine aM (an (ah (aa rfl (aj rfl rfl) ?_)));apply aa rfl;exact aP rfl rfl rfl bA;refine aa rfl (ai rfl rfl) (ar ?_))
  exact aW (j + 1,C) ⟨hlt,hfo',hok'⟩ (by show m - (j + 1) < m - j;omega) (Wk.of ⟨rfl,rfl,rfl,rfl,rfl,ag⟩ ⟨rfl,rfl,rfl,rfl,rfl,rfl,rfl,ag⟩ trivial)
 ·(refine a7 (aA (aA (aT (an (ak (ak (ah (aa rfl (ai rfl rfl) (ar (an (aB ?_))))))))))))
  have hfw:words.foldl (dD ng) (dG ng)=(M,N,b):=by
   by_cases hjm:j=m
   ·rw [←hfo,hjm,←hm,List.take_length]
   ·refine xk hfo ?_
    show b=true
    rw [decide_eq_true (show (j:Int) < m by omega)] at hc
    simpa using hc
  have hX0:outer ng rels 2001 0 (M,N,b)=X:=by rw [←hfw];exact hX
  refine bz (fun c:Nat×dR=>St.of [(1,o1 (.sl 1002 0 m)),(2,o1 (.ptr 2 0)),(4,o1 (.ptr 4 0)),(5,o1 (.ptr 5 0)),(8,vv (I6 c.1))] [(1000,cT c.2.1),(1001,bG c.2.2.1),(1002,a6 words),(1003,a6 rels),(2,⟨true,46,2, .flat [.val (I6 ng), .sl 1003 0 R]⟩),(4,⟨true,149,3, .flat [.val (.slice none 0 0), .val (.slice none 0 0), .val (.bool false)]⟩),(5,⟨true,149,3, .flat [.sl 1000 0 c.2.2.1.length, .sl 1001 0 c.2.2.1.length, .val (.bool c.2.2.2)]⟩)])
   (fun c=>outer ng rels (2001 - c.1) c.1 c.2=X∧c.1≤c.2.2.1.length∧cD ng 1 c.2) (fun c=>2001 - c.1) (0,(M,N,b)) ⟨hX0,Nat.zero_le _,hok⟩ (Wk.of ⟨rfl,rfl,rfl,rfl,rfl,ag⟩ ⟨rfl,rfl,rfl,rfl,rfl,rfl,rfl,ag⟩ trivial) ?_
  clear hfw hX0 hc hfo hok hj
  clear j M N b
  rintro ⟨c,M,N,b⟩ ⟨hout,hcl,hok⟩
  dsimp only at hout hcl ⊢
  have hNl:N.length≤2000:=hok.hi
  repeat refine ak ?_
  refine cW (St.of [(1,o1 (.sl 1002 0 m)),(2,o1 (.ptr 2 0)),(4,o1 (.ptr 4 0)),(5,o1 (.ptr 5 0)),(8,vv (I6 c)),(46,vv (.bool (decide ((c:Int) < N.length) && !b)))] [(1000,cT M),(1001,bG N),(1002,a6 words),(1003,a6 rels),(2,⟨true,46,2, .flat [.val (I6 ng), .sl 1003 0 R]⟩),(4,⟨true,149,3, .flat [.val (.slice none 0 0), .val (.slice none 0 0), .val (.bool false)]⟩),(5,⟨true,149,3, .flat [.sl 1000 0 N.length, .sl 1001 0 N.length, .val (.bool b)]⟩)]) ?_ ?_
  ·(refine ah (aa rfl (aj rfl rfl) ?_);apply aa rfl;(exact aI (d:=1) rfl rfl rfl ab);apply aa rfl;exact aZ rfl ab rfl rfl rfl rfl;apply aa rfl;exact bw rfl rfl rfl ab;refine aa rfl (aG rfl rfl rfl rfl) (aa rfl (aj rfl rfl) ?_))
   refine bS 42 rfl (fun h=> ?_) (fun h=> ?_)
   ·(apply aH rfl rfl rfl;(exact aI (d:=2) rfl rfl rfl ab);apply aH rfl rfl rfl;exact aZ rfl ab rfl rfl rfl rfl;apply aH rfl rfl rfl;exact bU rfl rfl;refine aa rfl (bp rfl rfl rfl) (ar ?_))
    exact aV (Wk.of ⟨rfl,rfl,rfl,rfl,rfl,by rw [h];rfl,ag⟩ ⟨rfl,rfl,rfl,rfl,rfl,rfl,rfl,ag⟩ trivial)
   ·(apply aD rfl rfl rfl rfl rfl;apply aD rfl rfl rfl rfl rfl;apply aD rfl rfl rfl rfl rfl;refine aa rfl (bD rfl rfl rfl) (ar ?_))
    exact aV (Wk.of ⟨rfl,rfl,rfl,rfl,rfl,by rw [h];rfl,ag⟩ ⟨rfl,rfl,rfl,rfl,rfl,rfl,rfl,ag⟩ trivial)
  (refine an ?_)
  refine ax rfl (fun hc=> ?_) (fun hc=> ?_)
  ·obtain ⟨hlt,rfl⟩:c < N.length∧b=false:=by
    simp at hc;exact ⟨ae,hc.2⟩
   obtain ⟨s0,hs0⟩:∃s0:dR,s0=(M,N,false):=⟨_,rfl⟩
   have hok0:cD ng N.length s0:=by subst hs0;exact ⟨hok.wf,Nat.le_refl _,hok.hi⟩
   have houts:outer ng rels (2000 - c) (c + 1) (eo ng rels c s0)=X:=by
    rw [←hout,show 2001 - c=(2000 - c) + 1 by omega,outer,if_pos ⟨hlt,rfl⟩,hs0]
   (refine aE (an (ak (aB (ak (ak (ah (aa rfl (ai rfl rfl) (ar (an (aB ?_)))))))))))
   refine bz (fun j:Nat×dR=>St.of [(1,o1 (.sl 1002 0 m)),(2,o1 (.ptr 2 0)),(4,o1 (.ptr 4 0)),(5,o1 (.ptr 5 0)),(8,vv (I6 c)),(9,vv (I6 j.1))] [(1000,cT j.2.1),(1001,bG j.2.2.1),(1002,a6 words),(1003,a6 rels),(2,⟨true,46,2, .flat [.val (I6 ng), .sl 1003 0 R]⟩),(4,⟨true,149,3, .flat [.val (.slice none 0 0), .val (.slice none 0 0), .val (.bool false)]⟩),(5,⟨true,149,3, .flat [.sl 1000 0 j.2.2.1.length, .sl 1001 0 j.2.2.1.length, .val (.bool j.2.2.2)]⟩)])
    (fun j=>j.1≤R∧(rels.take j.1).foldl (c9 ng c) s0=j.2∧cD ng N.length j.2) (fun j=>R - j.1) (0,s0) ⟨Nat.zero_le _,rfl,hok0⟩ (Wk.of (by rw [hs0];exact ⟨rfl,rfl,rfl,rfl,rfl,rfl,ag⟩) (by rw [hs0];exact ⟨rfl,rfl,rfl,rfl,rfl,rfl,rfl,ag⟩) trivial) ?_
   generalize hn0:N.length=n0 at *
   have hn02:n0≤2000:=hNl
   clear hout hok hc hs0
   clear hn0
   rintro ⟨j,M,N,b⟩ ⟨hj,hfo,hok⟩
   dsimp only at hj hfo ⊢
   have hNl:N.length≤2000:=hok.hi
   have hNn:n0≤N.length:=hok.lo
   have hcN:c < N.length:=by omega
   repeat refine ak ?_
   refine cW (St.of [(1,o1 (.sl 1002 0 m)),(2,o1 (.ptr 2 0)),(4,o1 (.ptr 4 0)),(5,o1 (.ptr 5 0)),(8,vv (I6 c)),(9,vv (I6 j)),(67,vv (.bool ((decide ((j:Int) < R) && (aC N c == (c:Int))) && !b)))] [(1000,cT M),(1001,bG N),(1002,a6 words),(1003,a6 rels),(2,⟨true,46,2, .flat [.val (I6 ng), .sl 1003 0 R]⟩),(4,⟨true,149,3, .flat [.val (.slice none 0 0), .val (.slice none 0 0), .val (.bool false)]⟩),(5,⟨true,149,3, .flat [.sl 1000 0 N.length, .sl 1001 0 N.length, .val (.bool b)]⟩)]) ?_ ?_
   ·(refine ah (aa rfl (aj rfl rfl) ?_);apply aa rfl;(exact aI (d:=1) rfl rfl rfl ab);apply aa rfl;exact aZ rfl ab rfl rfl rfl rfl;apply aa rfl;exact bw rfl rfl rfl ab;refine aa rfl (aG rfl rfl rfl rfl) (aa rfl (aj rfl rfl) ?_))
    refine bS 54 rfl (fun h=> ?_) (fun h=> ?_)
    ·(apply aH rfl rfl rfl;(exact aI (d:=1) rfl rfl rfl ab);apply aH rfl rfl rfl;exact aZ rfl ab rfl rfl rfl rfl;apply aH rfl rfl rfl;exact aj rfl rfl;apply aH rfl rfl rfl;exact aR rfl rfl rfl rfl rfl ab a9 aJ a8;apply aH rfl rfl rfl;exact bf rfl ab rfl rfl rfl aQ;apply aH rfl rfl rfl;exact aj rfl rfl;apply aH rfl rfl rfl;exact aG rfl rfl rfl rfl;refine aa rfl (bp rfl rfl rfl) (aa rfl (aj rfl rfl) ?_))
     refine bS 63 rfl (fun h'=> ?_) (fun h'=> ?_)
     ·(apply aH rfl rfl rfl;(exact aI (d:=2) rfl rfl rfl ab);apply aH rfl rfl rfl;exact aZ rfl ab rfl rfl rfl rfl;apply aH rfl rfl rfl;exact bU rfl rfl;refine aa rfl (bp rfl rfl rfl) (ar ?_))
      exact aV (Wk.of ⟨rfl,rfl,rfl,rfl,rfl,rfl,by rw [h,h'];rfl,ag⟩ ⟨rfl,rfl,rfl,rfl,rfl,rfl,rfl,ag⟩ trivial)
     ·(apply aD rfl rfl rfl rfl rfl;apply aD rfl rfl rfl rfl rfl;apply aD rfl rfl rfl rfl rfl;refine aa rfl (bD rfl rfl rfl) (ar ?_))
      exact aV (Wk.of ⟨rfl,rfl,rfl,rfl,rfl,rfl,by rw [h,h'];rfl,ag⟩ ⟨rfl,rfl,rfl,rfl,rfl,rfl,rfl,ag⟩ trivial)
    ·(apply aD rfl rfl rfl rfl rfl;apply aD rfl rfl rfl rfl rfl;apply aD rfl rfl rfl rfl rfl;apply aD rfl rfl rfl rfl rfl;apply aD rfl rfl rfl rfl rfl;apply aD rfl rfl rfl rfl rfl;apply aD rfl rfl rfl rfl rfl;refine aa rfl (bD rfl rfl rfl) (aa rfl (aj rfl rfl) ?_);apply aD rfl rfl rfl rfl rfl;apply aD rfl rfl rfl rfl rfl;apply aD rfl rfl rfl rfl rfl;refine aa rfl (bD rfl rfl rfl) (ar ?_))
     exact aV (Wk.of ⟨rfl,rfl,rfl,rfl,rfl,rfl,by rw [h];rfl,ag⟩ ⟨rfl,rfl,rfl,rfl,rfl,rfl,rfl,ag⟩ trivial)
   (refine an ?_)
   refine ax rfl (fun hc=> ?_) (fun hc=> ?_)
   ·obtain ⟨⟨hjr,hlive⟩,rfl⟩:(j < R∧aC N c=(c:Int))∧b=false:=by
     simp at hc;exact ⟨⟨ae,hc.1.2⟩,hc.2⟩
    have hjw:j < rels.length:=by omega
    obtain ⟨W,hW⟩:∃W,bn rels j=W:=⟨_,rfl⟩
    have hWm:W∈rels:=by rw [←hW];exact gb hjw
    obtain ⟨C,hC⟩:∃C,db ng M N c (W.map Int.toNat)=C:=⟨_,rfl⟩
    have hlv:fb (M,N,false) c=true:=by show (decide (aC N c=(c:Int)) && !false)=true;simp [hlive]
    have hcl:FC Tryz.prog 176 [(1000,cT M),(1001,bG N),(1003,a6 rels)] [zf N.length N.length false,vv (I6 c),o1 (.esl 1003 j 0 W.length)] [(1000,cT C.1),(1001,bG C.2.1)] (.s (.agg [.sl 1000 0 C.2.1.length, .sl 1001 0 C.2.1.length, .val (.bool C.2.2)])) []:=(qp ng N.length M N c rels j W.length W rfl hok.wf hcN hNl hng hjw hW rfl (hrl W hWm) (hr W hWm) C hC).nm [(1000,1000),(1001,1001),(1002,1003)] (by kernel_rfl)
    have hst:c9 ng c (M,N,false) W=C:=by unfold c9;rw [if_pos hlv];exact hC
    have hfo':(rels.take (j + 1)).foldl (c9 ng c) s0=C:=by
     rw [jq hjw,List.foldl_append,hfo,hW];exact hst
    have hok':cD ng n0 C:=by rw [←hst];exact jo hok hlt (hr W hWm)
    have hrow:(bV rels)[j]? =some (aL W):=by rw [←hW];exact cf hjw
    (refine aE ?_;refine an ?_;refine ak ?_;refine aB ?_)
    apply eE 7 [] [[], [], [], [2], [], [2,3,4], [2,3,4,5], [0,1,2,3,4,5,6], [0,1,2,3,4,5,6,7]] [70,71,72,73,74,75,76] [] (by kernel_rfl) (by kernel_rfl)
    ·(apply aK rfl;(intro S1 hS;exact aU rfl (hS.op rfl) (hS.ch _ _ rfl) rfl rfl rfl ab);apply aK rfl;(intro S1 hS;exact aj rfl (hS.op rfl));apply aK rfl;(intro S1 hS;exact aI (d:=1) rfl (hS.op rfl) (hS.ch _ _ rfl) ab);apply aK rfl;(intro S1 hS;exact aZ rfl ab (hS.op rfl) (hS.ch _ _ rfl) rfl rfl);apply aK rfl;(intro S1 hS;exact aj rfl (hS.op rfl));apply aK rfl;(intro S1 hS;exact aR rfl (hS.op rfl) (hS.op rfl) (hS.ch _ _ rfl) rfl ab a9 aJ a8);apply aK rfl;(intro S1 hS;exact bF rfl ab (hS.op rfl) (hS.ch _ _ rfl) rfl aQ c8);exact ft.nil)
    ·rfl
    ((apply aF 7 rfl ab rfl rfl;(apply au 176;exact dc [] hcl ab rfl rfl ⟨⟨.inl rfl, .inl rfl, .inl rfl,ag⟩,rfl,rfl,ag⟩ ⟨⟨_,rfl, .inl rfl⟩,⟨_,rfl, .inl rfl⟩,⟨_,rfl, .inl rfl⟩,ag⟩ trivial rfl rfl));(apply aF 8 rfl ab rfl rfl;exact br rfl rfl rfl rfl rfl rfl rfl rfl ab rfl);(refine bh ab ?_;skip))
    (refine aM (an (ah (aa rfl (aj rfl rfl) ?_)));apply aa rfl;exact aP rfl rfl rfl bA;refine aa rfl (ai rfl rfl) (ar ?_))
    exact aW (j + 1,C) ⟨hjr,hfo',hok'⟩ (by show R - (j + 1) < R - j;omega) (Wk.of ⟨rfl,rfl,rfl,rfl,rfl,rfl,ag⟩ ⟨rfl,rfl,rfl,rfl,rfl,rfl,rfl,ag⟩ trivial)
   ·(refine a7 (aA (aA (aT (an (ak (ah (aa rfl (ai rfl rfl) (ar (an (aB ?_)))))))))))
    have hfull:rels.foldl (c9 ng c) s0=(M,N,b):=by
     by_cases hjR:j=R
     ·rw [←hfo,hjR,←hR,List.take_length]
     ·refine By hfo ?_
      rw [decide_eq_true (show (j:Int) < R by omega)] at hc
      show (decide (aC N c=(c:Int)) && !b)=false
      simpa using hc
    obtain ⟨s1,hs1⟩:∃s1:dR,s1=(M,N,b):=⟨_,rfl⟩
    have hok1:cD ng n0 s1:=by rw [hs1];exact hok
    have hcos:(List.range ng).foldl (dm ng c) s1=eo ng rels c s0:=by unfold eo;rw [hfull,hs1]
    refine bz (fun g:Nat×dR=>St.of [(1,o1 (.sl 1002 0 m)),(2,o1 (.ptr 2 0)),(4,o1 (.ptr 4 0)),(5,o1 (.ptr 5 0)),(8,vv (I6 c)),(10,vv (I6 g.1))] [(1000,cT g.2.1),(1001,bG g.2.2.1),(1002,a6 words),(1003,a6 rels),(2,⟨true,46,2, .flat [.val (I6 ng), .sl 1003 0 R]⟩),(4,⟨true,149,3, .flat [.val (.slice none 0 0), .val (.slice none 0 0), .val (.bool false)]⟩),(5,⟨true,149,3, .flat [.sl 1000 0 g.2.2.1.length, .sl 1001 0 g.2.2.1.length, .val (.bool g.2.2.2)]⟩)])
     (fun g=>g.1≤ng∧(List.range g.1).foldl (dm ng c) s1=g.2∧cD ng n0 g.2) (fun g=>ng - g.1) (0,s1) ⟨Nat.zero_le _,rfl,hok1⟩ (Wk.of (by rw [hs1];exact ⟨rfl,rfl,rfl,rfl,rfl,rfl,ag⟩) (by rw [hs1];exact ⟨rfl,rfl,rfl,rfl,rfl,rfl,rfl,ag⟩) trivial) ?_
    clear hok hc hs1 hfull hfo hcN hNl hNn
    rintro ⟨g,M,N,b⟩ ⟨hg,hfo,hok⟩
    dsimp only at hg hfo ⊢
    have hNl:N.length≤2000:=hok.hi
    have hNn:n0≤N.length:=hok.lo
    have hcN:c < N.length:=by omega
    repeat refine ak ?_
    refine cW (St.of [(1,o1 (.sl 1002 0 m)),(2,o1 (.ptr 2 0)),(4,o1 (.ptr 4 0)),(5,o1 (.ptr 5 0)),(8,vv (I6 c)),(10,vv (I6 g)),(95,vv (.bool ((decide ((g:Int) < ng) && (aC N c == (c:Int))) && !b)))] [(1000,cT M),(1001,bG N),(1002,a6 words),(1003,a6 rels),(2,⟨true,46,2, .flat [.val (I6 ng), .sl 1003 0 R]⟩),(4,⟨true,149,3, .flat [.val (.slice none 0 0), .val (.slice none 0 0), .val (.bool false)]⟩),(5,⟨true,149,3, .flat [.sl 1000 0 N.length, .sl 1001 0 N.length, .val (.bool b)]⟩)]) ?_ ?_
    ·(refine ah (aa rfl (aj rfl rfl) ?_);apply aa rfl;(exact aI (d:=0) rfl rfl rfl ab);apply aa rfl;exact aZ rfl ab rfl rfl rfl rfl;refine aa rfl (aG rfl rfl rfl rfl) (aa rfl (aj rfl rfl) ?_))
     refine bS 82 rfl (fun h=> ?_) (fun h=> ?_)
     ·(apply aH rfl rfl rfl;(exact aI (d:=1) rfl rfl rfl ab);apply aH rfl rfl rfl;exact aZ rfl ab rfl rfl rfl rfl;apply aH rfl rfl rfl;exact aj rfl rfl;apply aH rfl rfl rfl;exact aR rfl rfl rfl rfl rfl ab a9 aJ a8;apply aH rfl rfl rfl;exact bf rfl ab rfl rfl rfl aQ;apply aH rfl rfl rfl;exact aj rfl rfl;apply aH rfl rfl rfl;exact aG rfl rfl rfl rfl;refine aa rfl (bp rfl rfl rfl) (aa rfl (aj rfl rfl) ?_))
      refine bS 91 rfl (fun h'=> ?_) (fun h'=> ?_)
      ·(apply aH rfl rfl rfl;(exact aI (d:=2) rfl rfl rfl ab);apply aH rfl rfl rfl;exact aZ rfl ab rfl rfl rfl rfl;apply aH rfl rfl rfl;exact bU rfl rfl;refine aa rfl (bp rfl rfl rfl) (ar ?_))
       exact aV (Wk.of ⟨rfl,rfl,rfl,rfl,rfl,rfl,by rw [h,h'];rfl,ag⟩ ⟨rfl,rfl,rfl,rfl,rfl,rfl,rfl,ag⟩ trivial)
      ·(apply aD rfl rfl rfl rfl rfl;apply aD rfl rfl rfl rfl rfl;apply aD rfl rfl rfl rfl rfl;refine aa rfl (bD rfl rfl rfl) (ar ?_))
       exact aV (Wk.of ⟨rfl,rfl,rfl,rfl,rfl,rfl,by rw [h,h'];rfl,ag⟩ ⟨rfl,rfl,rfl,rfl,rfl,rfl,rfl,ag⟩ trivial)
     ·(apply aD rfl rfl rfl rfl rfl;apply aD rfl rfl rfl rfl rfl;apply aD rfl rfl rfl rfl rfl;apply aD rfl rfl rfl rfl rfl;apply aD rfl rfl rfl rfl rfl;apply aD rfl rfl rfl rfl rfl;apply aD rfl rfl rfl rfl rfl;refine aa rfl (bD rfl rfl rfl) (aa rfl (aj rfl rfl) ?_);apply aD rfl rfl rfl rfl rfl;apply aD rfl rfl rfl rfl rfl;apply aD rfl rfl rfl rfl rfl;refine aa rfl (bD rfl rfl rfl) (ar ?_))
      exact aV (Wk.of ⟨rfl,rfl,rfl,rfl,rfl,rfl,by rw [h];rfl,ag⟩ ⟨rfl,rfl,rfl,rfl,rfl,rfl,rfl,ag⟩ trivial)
    (refine an ?_)
    refine ax rfl (fun hc=> ?_) (fun hc=> ?_)
    ·obtain ⟨⟨hgn,hlive⟩,rfl⟩:(g < ng∧aC N c=(c:Int))∧b=false:=by
      simp at hc;exact ⟨⟨ae,hc.1.2⟩,hc.2⟩
     have hlv:fb (M,N,false) c=true:=by show (decide (aC N c=(c:Int)) && !false)=true;simp [hlive]
     have hN:=rC ng N.length M N c g rfl hok.wf hcN hgn hNl hng
     have hst:dm ng c (M,N,false) g=((ck ng M N c g).1,(ck ng M N c g).2.1,(ck ng M N c g).2.2.1):=by unfold dm;rw [if_pos hlv]
     have hok':=kM (g:=g) hok hlt hgn
     rw [hst] at hok'
     have hfo':(List.range (g + 1)).foldl (dm ng c) s1=((ck ng M N c g).1,(ck ng M N c g).2.1,(ck ng M N c g).2.2.1):=by
      rw [List.range_succ,List.foldl_append,hfo,←hst];rfl
     generalize ck ng M N c g=D at *
     obtain ⟨M',N',b',d'⟩:=D
     dsimp only at hN hok' hfo'
     (refine aE (an (ak (aB (ak (ah (aa rfl (aU rfl rfl rfl rfl rfl rfl ab) ?_))))));refine aa rfl (aj rfl rfl) (aa rfl (aj rfl rfl) ?_);apply aa rfl;(apply au 177;exact dc [] hN ab rfl rfl ⟨⟨.inl rfl, .inl rfl, .inl rfl,ag⟩,rfl,rfl,ag⟩ ⟨⟨_,rfl, .inl rfl⟩,⟨_,rfl, .inl rfl⟩,ag⟩ trivial rfl rfl);refine aa rfl (aj rfl rfl) (aa rfl (aN rfl rfl rfl) (aa rfl (aN rfl rfl rfl) ?_));apply aa rfl;exact cL [.slice none 0 0, .slice none 0 0, .bool false] rfl ab;apply aa rfl;exact br rfl rfl rfl rfl rfl rfl rfl rfl ab rfl;refine aa rfl (ai rfl rfl) (ar (an (ah (aa rfl (aU rfl rfl rfl rfl rfl rfl ab) ?_))));apply aa rfl;exact br rfl rfl rfl rfl rfl rfl rfl rfl ab rfl;refine ar (aM (an (ah (aa rfl (aj rfl rfl) ?_))));apply aa rfl;exact aP rfl rfl rfl bA;refine aa rfl (ai rfl rfl) (ar ?_))
     exact aW (g + 1,(M',N',b')) ⟨hgn,hfo',hok'⟩ (by show ng - (g + 1) < ng - g;omega) (Wk.of ⟨rfl,rfl,rfl,rfl,rfl,rfl,ag⟩ ⟨rfl,rfl,rfl,rfl,rfl,rfl,rfl,ag⟩ trivial)
    ·(refine a7 (aA (aA (aT (aM (an (ah (aa rfl (aj rfl rfl) ?_)))))));apply aa rfl;exact aP rfl rfl rfl bA;refine aa rfl (ai rfl rfl) (ar ?_))
     have hfg:eo ng rels c s0=(M,N,b):=by
      rw [←hcos]
      by_cases hgn:g=ng
      ·rw [←hfo,hgn]
      ·refine rS hfo ?_ ng hg
       rw [decide_eq_true (show (g:Int) < ng by omega)] at hc
       show (decide (aC N c=(c:Int)) && !b)=false
       simpa using hc
     exact aW (c + 1,(M,N,b)) ⟨by show outer ng rels (2001 - (c + 1)) (c + 1) (M,N,b)=X;rw [show 2001 - (c + 1)=2000 - c by omega,←hfg];exact houts,by show c + 1≤N.length;omega,hok.le ae⟩ (by show 2001 - (c + 1) < 2001 - c;omega) (Wk.of ⟨rfl,rfl,rfl,rfl,rfl,ag⟩ ⟨rfl,rfl,rfl,rfl,rfl,rfl,rfl,ag⟩ trivial)
  ·(refine a7 (aA (aA (aT (an (ak (ah (aa rfl (aU rfl rfl rfl rfl rfl rfl ab) ?_)))))));apply aa rfl;exact br rfl rfl rfl rfl rfl rfl rfl rfl ab rfl;refine ar (an (aS ?_)))
   have hXs:(M,N,b)=X:=by
    rw [←hout]
    cases hk:2001 - c with
    | zero=>omega
    | succ f=>
     rw [outer,if_neg]
     rintro ⟨h1,h2⟩
     have h1:c < N.length:=h1
     have h2:b=false:=h2
     rw [decide_eq_true (show (c:Int) < N.length by omega),h2] at hc
     cases hc
   subst hXs
   exact bu (.inl rfl) rfl (.cell rfl rfl rfl rfl rfl (by kernel_rfl)) ⟨rfl,rfl,ag⟩ trivial
end Go.Proofs.YtekbhbcgoadciaaGreat
namespace Go.Proofs.YtekbhbcgoadciaaGreat
open Go.RowKit
theorem qN (ng:Nat) (rels words:List (List Int)) (R m:Nat) (hR:rels.length=R) (hm:words.length=m) (hr:∀w∈rels,bB ng w) (hw:∀w∈words,bB ng w) (hng:ng≤1000) (hrl:∀w∈rels,w.length≤1000000000) (hwl:∀w∈words,w.length≤1000000000) (hR2:R≤1000000000) (hm2:m≤1000000000) (hf:(cm ng rels words).2.2=true):
  FC Tryz.prog 129 [(1002,a6 words),(1003,a6 rels)] [.s (.agg [.val (I6 ng), .sl 1003 0 R]),o1 (.sl 1002 0 m)] [] (.tup [.one (.val (.slice none 0 0)), .one (.val (.bool false))]) []:=by
 have hRun:=uD ng rels words R m hR hm hr hw hng hrl hwl hR2 hm2 _ rfl
 rw [hf] at hRun
 refine bj (nt:=101) Tryz.func129 rfl rfl (by simp) fun w0 ω0=> ?_
 (refine ak (ah (aa rfl (cF rfl rfl rfl rfl) (aa rfl (ai rfl rfl) (aa rfl (ai rfl rfl) (ar (an (ak (ah (aa rfl (aU rfl rfl rfl rfl rfl rfl ab) ?_)))))))));apply aa rfl;exact aj rfl rfl;apply aa rfl;(apply au 154;exact dc [] hRun ab rfl rfl ⟨⟨.inl rfl, .inl rfl,ag⟩,rfl,ag⟩ ⟨⟨_,rfl, .inl rfl⟩,⟨_,rfl, .inl rfl⟩,ag⟩ trivial rfl rfl);apply aa rfl;exact cL [.slice none 0 0, .slice none 0 0, .bool false] rfl ab;apply aa rfl;exact br rfl rfl rfl rfl rfl rfl rfl rfl ab rfl;refine ar (an (ak (ak (ah ?_))));apply aa rfl;(exact aI (d:=2) rfl rfl rfl ab);apply aa rfl;exact aZ rfl ab rfl rfl rfl rfl;refine ar (an ?_))
 refine ax rfl (fun _=> ?_) (fun e=>by cases e)
 (refine ak (ah (aa rfl (ai rfl rfl) (aa rfl (ai rfl rfl) (ar (an (aS (aO ?_))))))))
 exact bN (.inl rfl) rfl (.tmp rfl) (.tmp rfl) trivial trivial
end Go.Proofs.YtekbhbcgoadciaaGreat
namespace Go.Proofs.YtekbhbcgoadciaaGreat
open Go.RowKit
section
variable {P:Program} {nt:Nat} {S S1:St} {w0 w:World} {ω0:ml} {ω:bY} {η:Env} {a:Act} {Q:Exit→Act→World→Prop}
variable {t:Nat} {ty:TypeId} {ps:String} {af:Array Edge} {gd:Option (Nat×Bool)} {x y:Operand} {av:AV}
theorem CU (n:Nat) (z:Int):aL (List.replicate n z)=List.replicate n (I6 z):=by simp [aL]
theorem BJ (n:Nat):bV (List.replicate n [])=List.replicate n []:=by simp [bV,aL]
theorem jr {T E n:Nat} {l c:Operand} {kl kc:IntKind} {L C:Int} (ht:Nat.blt t nt=true) (hT:pN P T E 1=true) (hz:(P.info? E).bind (·.zero)=some (I6 0)) (hl:S.op l=some (vv (.int kl L))) (hc:S.op c=some (vv (.int kc C)))
  (hL:L=(n:Int)) (hC:C=(n:Int)) (hn:n≤2199023255552):cu P nt ⟨some t, .makeSlice T l c,ty,ps,af,gd⟩ S ((S.new t ⟨true,E,1, .bR (aL (List.replicate n 0))⟩).put t (o1 (.sl t 0 n))):=by
 rw [CU]
 exact xT (ts:= #[]) ht hT hz hl hc hL hC hn rfl
theorem CQ {T E F n:Nat} {l c:Operand} {kl kc:IntKind} {L C:Int} (ht:Nat.blt t nt=true) (hT:pN P T E 1=true) (hz:(P.info? E).bind (·.zero)=some (.slice none 0 0)) (hF:P.underlying E=some (.slice F)) (hl:S.op l=some (vv (.int kl L))) (hc:S.op c=some (vv (.int kc C)))
  (hL:L=(n:Int)) (hC:C=(n:Int)) (hn:n≤2199023255552):cu P nt ⟨some t, .makeSlice T l c,ty,ps,af,gd⟩ S ((S.new t ⟨true,E,1, .rows F (bV (List.replicate n [])) []⟩).put t (o1 (.sl t 0 n))):=by
 rw [BJ]
 exact vO (ts:= #[]) ht hT hz hF hl hc hL hC hn
end
end Go.Proofs.YtekbhbcgoadciaaGreat
namespace Go.Proofs.YtekbhbcgoadciaaGreat
open Go.RowKit
def jJ (n j:Nat):List Int:=(List.range n).map fun i=>if 1≤i∧i < j then -1 else 0
theorem fi (n j:Nat):(jJ n j).length=n:=by simp [jJ]
theorem kg {n j i:Nat} (h:i < n):aC (jJ n j) i=if 1≤i∧i < j then -1 else 0:=by simp [aC,jJ,h]
theorem zH (n:Nat):jJ n 1=List.replicate n 0:=by
 refine nY (by rw [fi];simp) fun k hk=> ?_
 rw [fi] at hk
 rw [kg hk,if_neg ae,fp hk]
theorem Ad {n j:Nat} (h:1≤j) (hj:j < n):(jJ n j).set j (-1)=jJ n (j + 1):=by
 refine nY (by rw [List.length_set,fi,fi]) fun k hk=> ?_
 rw [List.length_set,fi] at hk
 rw [cK,kg hk,kg hk,fi]
 by_cases e:j=k
 ·subst e;rw [if_pos ⟨rfl,hj⟩,if_pos ⟨h,ae⟩]
 ·rw [if_neg (fun h=>e h.1)]
  by_cases e2:1≤k∧k < j
  ·rw [if_pos e2,if_pos ⟨e2.1,ae⟩]
  ·rw [if_neg e2,if_neg ae]
theorem xv {n j:Nat} (h0:0 < n) (h:n≤j):jJ n j=(dE n).2:=by
 refine nY (by rw [fi];simp [dE]) fun k hk=> ?_
 rw [fi] at hk
 show _=aC ((List.replicate n (-1)).set 0 0) k
 rw [kg hk,cK,fp hk]
 by_cases e:0=k
 ·subst e;rw [if_neg ae,if_pos ⟨rfl,by simpa using h0⟩]
 ·rw [if_pos ae,if_neg (fun h=>e h.1)]
def iN (im:List (List Int)) (less:List Int) (s:je) (g k:Nat):Int:=aC s.2 (image im less (aC s.1 k).toNat g).toNat
theorem rV (ng:Nat) (im:List (List Int)) (less:List Int):cj ng im less=(List.range ng).map fun g=>(List.range (bO ng im less).1.length).map (iN im less (bO ng im less) g):=by
 unfold cj
 refine List.map_congr_left fun g _=> ?_
 refine List.ext_getElem (by simp) fun k h1 h2=> ?_
 simp at h1
 simp [iN,aC,h1]
theorem oT {ng:Nat} {im:List (List Int)} {less:List Int} {f i:Nat} {s:je} (h:i < s.1.length):da ng im less (f + 1) i s=da ng im less f (i + 1) (iS ng im less i s):=by rw [da,if_pos h]
theorem tP (ng:Nat) (rels words:List (List Int)) (R m:Nat) (hR:rels.length=R) (hm:words.length=m) (hr:∀w∈rels,bB ng w) (hw:∀w∈words,bB ng w) (hng:ng≤1000) (hrl:∀w∈rels,w.length≤1000000000) (hwl:∀w∈words,w.length≤1000000000) (hR2:R≤1000000000) (hm2:m≤1000000000) (hf:(cm ng rels words).2.2=false):
  FC Tryz.prog 129 [(1002,a6 words),(1003,a6 rels)] [.s (.agg [.val (I6 ng), .sl 1003 0 R]),o1 (.sl 1002 0 m)] [(69,cT (cj ng (cm ng rels words).1 (cm ng rels words).2.1))] (.tup [.one (.sl 69 0 ng), .one (.val (.bool true))]) []:=by
 have hRun:=uD ng rels words R m hR hm hr hw hng hrl hwl hR2 hm2 _ rfl
 have hF:=gg hr hw hf
 have hhi:=(vG hr hw).hi
 obtain ⟨X,hX⟩:∃X,cm ng rels words=X:=⟨_,rfl⟩
 rw [hX] at hRun hF hhi hf ⊢
 clear hX
 obtain ⟨im,less,bb⟩:=X
 dsimp only at hRun hF hhi hf ⊢
 subst hf
 have hn0:=hF.pos
 have him:im.length=less.length:=hF.wf.len
 have hts:=fg hF
 refine bj (nt:=101) Tryz.func129 rfl rfl (by simp) fun w0 ω0=> ?_
 (refine ak (ah (aa rfl (cF rfl rfl rfl rfl) (aa rfl (ai rfl rfl) (aa rfl (ai rfl rfl) (ar (an (ak (ah (aa rfl (aU rfl rfl rfl rfl rfl rfl ab) ?_)))))))));apply aa rfl;exact aj rfl rfl;apply aa rfl;(apply au 154;exact dc [] hRun ab rfl rfl ⟨⟨.inl rfl, .inl rfl,ag⟩,rfl,ag⟩ ⟨⟨_,rfl, .inl rfl⟩,⟨_,rfl, .inl rfl⟩,ag⟩ trivial rfl rfl);apply aa rfl;exact cL [.slice none 0 0, .slice none 0 0, .bool false] rfl ab;apply aa rfl;exact br rfl rfl rfl rfl rfl rfl rfl rfl ab rfl;refine ar (an (ak (ak (ah ?_))));apply aa rfl;(exact aI (d:=2) rfl rfl rfl ab);apply aa rfl;exact aZ rfl ab rfl rfl rfl rfl;refine ar (an ?_))
 refine ax rfl (fun e=>by cases e) (fun _=> ?_)
 (refine aE (an (ak (ah ?_)));apply aa rfl;(exact bW (E:=2) rfl ab rfl);refine aa rfl (ai rfl rfl) (ar (an (ak (ah ?_))));apply aa rfl;(exact aI (d:=1) rfl rfl rfl ab);apply aa rfl;exact aZ rfl ab rfl rfl rfl rfl;apply aa rfl;exact bw rfl rfl rfl ab;apply aa rfl;(exact jr (E:=2) rfl ab ab rfl rfl rfl rfl ae);refine aa rfl (ai rfl rfl) (ar (an (ak (ak (ah (aa rfl (ai rfl rfl) (ar (an (aB ?_))))))))))
 refine bz (fun j:Nat=>St.of [(2,o1 (.ptr 2 0)),(6,o1 (.ptr 6 0)),(7,o1 (.sl 22 0 1)),(8,o1 (.sl 26 0 less.length)),(9,vv (I6 j))] [(1000,cT im),(1001,bG less),(2,⟨true,46,2, .flat [.val (I6 ng), .sl 1003 0 R]⟩),(6,⟨true,149,3, .flat [.sl 1000 0 less.length, .sl 1001 0 less.length, .val (.bool false)]⟩),(22,bG [0]),(26,bG (jJ less.length j))])
  (fun j=>1≤j∧j≤less.length) (fun j=>less.length - j) 1 ⟨Nat.le_refl _,hn0⟩ (Wk.of ⟨rfl,rfl,rfl,rfl,rfl,ag⟩ ⟨rfl,rfl,rfl,rfl,rfl,by rw [zH];rfl,ag⟩ trivial) ?_
 rintro j ⟨hj1,hj2⟩
 have hbl:(jJ less.length j).length=less.length:=fi _ _
 (refine ak (ak (ah (aa rfl (aj rfl rfl) (aa rfl (aj rfl rfl) (aa rfl (bw rfl rfl rfl ab) ?_)))));refine aa rfl (aG rfl rfl rfl rfl) (ar (an ?_)))
 refine bK rfl (fun h=> ?_) (fun h=> ?_)
 ·have hlt:j < less.length:=by omega
  (refine aE (an (ak (aB (ah (aa rfl (aj rfl rfl) (aa rfl (aj rfl rfl) ?_))))));apply aa rfl;exact aR rfl rfl rfl rfl rfl ab a9 aJ a8;apply aa rfl;exact dW rfl rfl rfl rfl rfl aJ ab;refine ar (aM (an (ah (aa rfl (aj rfl rfl) ?_))));apply aa rfl;exact aP rfl rfl rfl bA;refine aa rfl (ai rfl rfl) (ar ?_))
  exact aW (j + 1) ⟨ae,hlt⟩ ae (Wk.of ⟨rfl,rfl,rfl,rfl,rfl,ag⟩ ⟨rfl,rfl,rfl,rfl,rfl,by rw [←Ad hj1 hlt];rfl,ag⟩ trivial)
 ·obtain rfl:j=less.length:=by omega
  clear h
  have hb2:jJ less.length less.length=(dE less.length).2:=xv hn0 (Nat.le_refl _)
  rw [hb2]
  clear hb2 hbl
  (refine a7 (aA (aA (aT (an (ak (ak (ah (aa rfl (ai rfl rfl) (ar (an (aB ?_))))))))))))
  refine bz (fun q:Nat×je=>St.of [(2,o1 (.ptr 2 0)),(6,o1 (.ptr 6 0)),(7,o1 (.sl 22 0 q.2.1.length)),(8,o1 (.sl 26 0 less.length)),(10,vv (I6 q.1))] [(1000,cT im),(1001,bG less),(2,⟨true,46,2, .flat [.val (I6 ng), .sl 1003 0 R]⟩),(6,⟨true,149,3, .flat [.sl 1000 0 less.length, .sl 1001 0 less.length, .val (.bool false)]⟩),(22,bG q.2.1),(26,bG q.2.2)])
   (fun q=>q.1≤q.2.1.length∧pn less.length less q.2∧da ng im less (less.length + 1 - q.1) q.1 q.2=bO ng im less) (fun q=>less.length + 1 - q.1) (0,dE less.length) ⟨Nat.zero_le _,hts,rfl⟩ (Wk.of ⟨rfl,rfl,rfl,rfl,rfl,ag⟩ ⟨rfl,rfl,rfl,rfl,rfl,rfl,ag⟩ trivial) ?_
  rintro ⟨i,O,M⟩ ⟨hi,htok,hnum⟩
  dsimp only at hi hnum ⊢
  have hOl:O.length≤less.length:=htok.le
  (refine ak (ak (ah (aa rfl (aj rfl rfl) (aa rfl (aj rfl rfl) (aa rfl (bw rfl rfl rfl ab) ?_)))));refine aa rfl (aG rfl rfl rfl rfl) (ar (an ?_)))
  refine bK rfl (fun h=> ?_) (fun h=> ?_)
  ·have hlt:i < O.length:=by omega
   have hnum':da ng im less (less.length - i) (i + 1) (iS ng im less i (O,M))=bO ng im less:=by
    rw [←hnum,show less.length + 1 - i=(less.length - i) + 1 by omega]
    exact (oT hlt).symm
   obtain ⟨s0,hs0⟩:∃s0:je,s0=(O,M):=⟨_,rfl⟩
   obtain ⟨d,hd1,hd2,hd3, -⟩:=htok.live i hlt
   dsimp only at hd1
   have hrow:∀n,n≤ng→pn less.length less ((List.range n).foldl (cY im less i) s0)∧eS s0 ((List.range n).foldl (cY im less i) s0):=fun n hn=>
    have:=eG hF (i:=i) (s:=s0) (by rw [hs0];exact htok) (by rw [hs0];exact hlt) n hn
    ⟨this.1,this.2.1⟩
   have hfin:da ng im less (less.length - i) (i + 1) ((List.range ng).foldl (cY im less i) s0)=bO ng im less:=by rw [hs0];exact hnum'
   (refine aE (an (ak (aB (ak (ah (aa rfl (ai rfl rfl) (ar (an (aB ?_))))))))))
   refine bz (fun q:Nat×je=>St.of [(2,o1 (.ptr 2 0)),(6,o1 (.ptr 6 0)),(7,o1 (.sl 22 0 q.2.1.length)),(8,o1 (.sl 26 0 less.length)),(10,vv (I6 i)),(11,vv (I6 q.1))] [(1000,cT im),(1001,bG less),(2,⟨true,46,2, .flat [.val (I6 ng), .sl 1003 0 R]⟩),(6,⟨true,149,3, .flat [.sl 1000 0 less.length, .sl 1001 0 less.length, .val (.bool false)]⟩),(22,bG q.2.1),(26,bG q.2.2)])
    (fun q=>q.1≤ng∧(List.range q.1).foldl (cY im less i) s0=q.2) (fun q=>ng - q.1) (0,s0) ⟨Nat.zero_le _,rfl⟩ (Wk.of (by rw [hs0];exact ⟨rfl,rfl,rfl,rfl,rfl,rfl,ag⟩) (by rw [hs0];exact ⟨rfl,rfl,rfl,rfl,rfl,rfl,ag⟩) trivial) ?_
   have hO0:s0.1.length=O.length:=by rw [hs0]
   have hd0:aC s0.1 i=(d:Int):=by rw [hs0];exact hd1
   clear hnum hnum' htok hs0 hd1
   generalize O.length=on at *
   rintro ⟨g,O,M⟩ ⟨hg,hfo⟩
   dsimp only at hg hfo ⊢
   obtain ⟨tok,grw⟩:=hrow g hg
   rw [hfo] at tok grw
   have hiO:i < O.length:=Nat.lt_of_lt_of_le ae grw.len
   have hOl':O.length≤less.length:=tok.le
   have hML:M.length=less.length:=tok.len
   have hdO:aC O i=(d:Int):=(grw.pre i ae).trans hd0
   have hget:(aL O)[i]? =some (I6 (d:Int)):=by rw [bl hiO,hdO]
   (refine ak (ak (ah (aa rfl (aj rfl rfl) ?_)));apply aa rfl;(exact aI (d:=0) rfl rfl rfl ab);apply aa rfl;exact aZ rfl ab rfl rfl rfl rfl;refine aa rfl (aG rfl rfl rfl rfl) (ar (an ?_)))
   refine bK rfl (fun h2=> ?_) (fun h2=> ?_)
   ·have hgn:g < ng:=by omega
    obtain ⟨e,he1,he2,_⟩:=hF.image hd2 hd3 hgn
    have hI:=iM im less less.length less.length d g false him rfl hF.wf.down ae (by rw [hF.wf.row d ae];exact hgn) (hF.wf.bZ d g ae hgn)
    rw [he1] at hI
    have hst:(List.range (g + 1)).foldl (cY im less i) s0=visit (O,M) e:=by
     rw [List.range_succ,List.foldl_append,hfo]
     show visit (O,M) (image im less (aC O i).toNat g).toNat=_
     rw [hdO,Int.toNat_natCast,he1,Int.toNat_natCast]
    (refine aE ?_;refine an ?_;refine ak ?_;refine aB ?_;refine ak ?_)
    apply eE 6 [] [[], [], [], [1,2], [1,2,3], [], [0,1,2,3,4,5], [0,1,2,3,4,5,6]] [48,49,50,51,52,53] [] (by kernel_rfl) (by kernel_rfl)
    ·(apply aK rfl;(intro S1 hS;exact aU rfl (hS.op rfl) (hS.ch _ _ rfl) rfl rfl rfl ab);apply aK rfl;(intro S1 hS;exact aj rfl (hS.op rfl));apply aK rfl;(intro S1 hS;exact aj rfl (hS.op rfl));apply aK rfl;(intro S1 hS;exact aR rfl (hS.op rfl) (hS.op rfl) (hS.ch _ _ rfl) rfl ab a9 aJ a8);apply aK rfl;(intro S1 hS;exact bf rfl ab (hS.op rfl) (hS.ch _ _ rfl) rfl aQ);apply aK rfl;(intro S1 hS;exact aj rfl (hS.op rfl));exact ft.nil)
    ·rfl
    ((apply aF 6 rfl ab rfl rfl;(apply au 155;exact aw hI ab rfl rfl ⟨⟨.inl rfl, .inl rfl, .inl rfl,ag⟩,rfl,rfl,ag⟩ ⟨⟨_,rfl, .inr rfl⟩,⟨_,rfl, .inr rfl⟩,ag⟩ rfl rfl));(apply aF 7 rfl ab rfl rfl;exact ai rfl rfl);(refine bh ab ?_;skip))
    (refine an (ak (ah (aa rfl (aj rfl rfl) (aa rfl (aj rfl rfl) ?_))));apply aa rfl;exact aR rfl rfl rfl rfl rfl ab a9 aJ a8;apply aa rfl;exact bf rfl ab rfl rfl rfl aQ;refine aa rfl (aG rfl rfl rfl rfl) (ar (an ?_)))
    refine ax rfl (fun hc=> ?_) (fun hc=> ?_)
    ·have hneg:aC M e < 0:=by simpa using hc
     have hv:visit (O,M) e=(O ++ [(e:Int)],M.set e (O.length:Int)):=if_pos hneg
     (refine ak (ah (aa rfl (aj rfl rfl) (aa rfl (aj rfl rfl) (aa rfl (aj rfl rfl) (aa rfl (bw rfl rfl rfl ab) ?_)))));apply aa rfl;exact aR rfl rfl rfl rfl rfl ab a9 aJ a8;apply aa rfl;exact dW rfl rfl rfl rfl rfl aJ ab;refine ar (an (ah (aa rfl (aj rfl rfl) (aa rfl (aj rfl rfl) ?_))));apply aa rfl;(exact bW (E:=2) rfl ab rfl);apply aa rfl;(exact bE rfl ab rfl rfl rfl (by first | rfl | assumption | (simp;done)) rfl rfl ae);refine aa rfl (ai rfl rfl) (ar (aM (an (ah (aa rfl (aj rfl rfl) ?_)))));apply aa rfl;exact aP rfl rfl rfl bA;refine aa rfl (ai rfl rfl) (ar ?_))
     exact aW (g + 1,(O ++ [(e:Int)],M.set e (O.length:Int))) ⟨hgn,hst.trans hv⟩ (by show ng - (g + 1) < ng - g;omega) (Wk.of ⟨rfl,rfl,by simp;rfl,rfl,rfl,rfl,ag⟩ ⟨rfl,rfl,rfl,rfl,rfl,rfl,ag⟩ trivial)
    ·have hneg:¬aC M e < 0:=by simpa using hc
     have hv:visit (O,M) e=(O,M):=if_neg hneg
     (refine aE (aM (an (ah (aa rfl (aj rfl rfl) ?_))));apply aa rfl;exact aP rfl rfl rfl bA;refine aa rfl (ai rfl rfl) (ar ?_))
     exact aW (g + 1,(O,M)) ⟨hgn,hst.trans hv⟩ (by show ng - (g + 1) < ng - g;omega) (Wk.of ⟨rfl,rfl,rfl,rfl,rfl,rfl,ag⟩ ⟨rfl,rfl,rfl,rfl,rfl,rfl,ag⟩ trivial)
   ·obtain rfl:g=ng:=by omega
    (refine a7 (aA (aA (aT (aM (an (ah (aa rfl (aj rfl rfl) ?_)))))));apply aa rfl;exact aP rfl rfl rfl bA;refine aa rfl (ai rfl rfl) (ar ?_))
    exact aW (i + 1,(O,M)) ⟨hiO,tok,by rw [←hfin,hfo];show da _ _ _ (less.length + 1 - (i + 1)) _ _=_;rw [show less.length + 1 - (i + 1)=less.length - i by omega]⟩ (by show less.length + 1 - (i + 1) < less.length + 1 - i;omega) (Wk.of ⟨rfl,rfl,rfl,rfl,rfl,ag⟩ ⟨rfl,rfl,rfl,rfl,rfl,rfl,ag⟩ trivial)
  ·have hio:i=O.length:=by omega
   have hOM:bO ng im less=(O,M):=by
    rw [←hnum,show less.length + 1 - i=(less.length - i) + 1 by omega,da,if_neg (by show ¬i < O.length;omega)]
   have hML:M.length=less.length:=htok.len
   have htb:=rV ng im less
   rw [hOM] at htb
   dsimp only at htb
   rw [htb]
   clear hnum h htb hio hi
   (refine a7 (aA (aA (aT (an (ak (ah ?_))))));apply aa rfl;(exact vc (E:=24) (F:=2) rfl ab);refine aa rfl (ai rfl rfl) (ar (an (ak (ak (ah (aa rfl (ai rfl rfl) (ar (an (aB ?_))))))))))
   refine bz (fun g:Nat=>St.of [(2,o1 (.ptr 2 0)),(6,o1 (.ptr 6 0)),(7,o1 (.sl 22 0 O.length)),(8,o1 (.sl 26 0 less.length)),(13,o1 (.sl 69 0 g)),(14,vv (I6 g))] [(1000,cT im),(1001,bG less),(2,⟨true,46,2, .flat [.val (I6 ng), .sl 1003 0 R]⟩),(6,⟨true,149,3, .flat [.sl 1000 0 less.length, .sl 1001 0 less.length, .val (.bool false)]⟩),(22,bG O),(26,bG M),(69,cT ((List.range g).map fun g=>(List.range O.length).map (iN im less (O,M) g)))])
    (fun g=>g≤ng) (fun g=>ng - g) 0 (Nat.zero_le _) (Wk.of ⟨rfl,rfl,rfl,rfl,rfl,rfl,ag⟩ ⟨rfl,rfl,rfl,rfl,rfl,rfl,rfl,ag⟩ trivial) ?_
   intro g hg
   (refine ak (ak (ah (aa rfl (aj rfl rfl) ?_)));apply aa rfl;(exact aI (d:=0) rfl rfl rfl ab);apply aa rfl;exact aZ rfl ab rfl rfl rfl rfl;refine aa rfl (aG rfl rfl rfl rfl) (ar (an ?_)))
   refine bK rfl (fun h2=> ?_) (fun h2=> ?_)
   ·have hgn:g < ng:=by omega
    (refine aE (an (ak (aB (ak (ah ?_)))));apply aa rfl;(exact ey (E:=2) (k:=1) rfl ab);refine aa rfl (ai rfl rfl) (ar (an (ak (ak (ah (aa rfl (ai rfl rfl) (ar (an (aB ?_))))))))))
    refine bz (fun k:Nat=>St.of [(2,o1 (.ptr 2 0)),(6,o1 (.ptr 6 0)),(7,o1 (.sl 22 0 O.length)),(8,o1 (.sl 26 0 less.length)),(13,o1 (.sl 69 0 g)),(14,vv (I6 g)),(15,o1 (.sl 76 0 k)),(16,vv (I6 k))] [(1000,cT im),(1001,bG less),(2,⟨true,46,2, .flat [.val (I6 ng), .sl 1003 0 R]⟩),(6,⟨true,149,3, .flat [.sl 1000 0 less.length, .sl 1001 0 less.length, .val (.bool false)]⟩),(22,bG O),(26,bG M),(69,cT ((List.range g).map fun g=>(List.range O.length).map (iN im less (O,M) g))),(76,bG ((List.range k).map (iN im less (O,M) g)))])
     (fun k=>k≤O.length) (fun k=>O.length - k) 0 (Nat.zero_le _) (Wk.of ⟨rfl,rfl,rfl,rfl,rfl,rfl,rfl,rfl,ag⟩ ⟨rfl,rfl,rfl,rfl,rfl,rfl,rfl,rfl,ag⟩ trivial) ?_
    intro k hk
    (refine ak (ak (ah (aa rfl (aj rfl rfl) (aa rfl (aj rfl rfl) (aa rfl (bw rfl rfl rfl ab) ?_)))));refine aa rfl (aG rfl rfl rfl rfl) (ar (an ?_)))
    refine bK rfl (fun h3=> ?_) (fun h3=> ?_)
    ·have hkO:k < O.length:=by omega
     obtain ⟨d,hd1,hd2,hd3, -⟩:=htok.live k hkO
     dsimp only at hd1
     obtain ⟨e,he1,he2,_⟩:=hF.image hd2 hd3 hgn
     have hI:=iM im less less.length less.length d g false him rfl hF.wf.down ae (by rw [hF.wf.row d ae];exact hgn) (hF.wf.bZ d g ae hgn)
     rw [he1] at hI
     have hget:(aL O)[k]? =some (I6 (d:Int)):=by rw [bl hkO,hd1]
     have htc:iN im less (O,M) g k=aC M e:=by unfold iN;dsimp only;rw [hd1,Int.toNat_natCast,he1,Int.toNat_natCast]
     have hkl:((List.range k).map (iN im less (O,M) g)).length=k:=by simp
     (refine aE ?_;refine an ?_;refine ak ?_;refine aB ?_)
     apply eE 12 [] [[], [], [], [], [], [3,4], [3,4,5], [], [2,3,4,5,6,7], [1,2,3,4,5,6,7,8], [1,2,3,4,5,6,7,8,9], [1,2,3,4,5,6,7,8,9,10], [0,1,2,3,4,5,6,7,8,9,10,11], [0,1,2,3,4,5,6,7,8,9,10,11,12]] [83,84,85,86,87,88,89,90,91,92,93,94] [94] (by kernel_rfl) (by kernel_rfl)
     ·(apply aK rfl;(intro S1 hS;exact aj rfl (hS.op rfl));apply aK rfl;(intro S1 hS;exact aj rfl (hS.op rfl));apply aK rfl;(intro S1 hS;exact aU rfl (hS.op rfl) (hS.ch _ _ rfl) rfl rfl rfl ab);apply aK rfl;(intro S1 hS;exact aj rfl (hS.op rfl));apply aK rfl;(intro S1 hS;exact aj rfl (hS.op rfl));apply aK rfl;(intro S1 hS;exact aR rfl (hS.op rfl) (hS.op rfl) (hS.ch _ _ rfl) rfl ab a9 aJ a8);apply aK rfl;(intro S1 hS;exact bf rfl ab (hS.op rfl) (hS.ch _ _ rfl) rfl aQ);apply aK rfl;(intro S1 hS;exact aj rfl (hS.op rfl));(apply aK rfl;(focus (intro S1 hS;apply au 155;exact aw hI ab rfl (eu hS rfl) ⟨⟨.inl rfl, .inl rfl, .inl rfl,ag⟩,rfl,rfl,ag⟩ (dq hS ⟨⟨_,rfl, .inr rfl⟩,⟨_,rfl, .inr rfl⟩,ag⟩) rfl rfl)));apply aK rfl;(intro S1 hS;exact aR rfl (hS.op rfl) (hS.op rfl) (hS.ch _ _ rfl) rfl ab a9 aJ a8);apply aK rfl;(intro S1 hS;exact bf rfl ab (hS.op rfl) (hS.ch _ _ rfl) rfl aQ);apply gU rfl;(intro S1 hS;exact bW (E:=2) rfl ab (hS.op rfl));exact ft.nil)
     ·rfl
     ((apply aF 12 rfl ab rfl rfl;(exact bE rfl ab rfl rfl rfl (by first | rfl | assumption | (simp;done)) rfl rfl ae));(apply aF 13 rfl ab rfl rfl;exact ai rfl rfl);(refine bh ab ?_;skip))
     (refine aM (an (ah (aa rfl (aj rfl rfl) ?_)));apply aa rfl;exact aP rfl rfl rfl bA;refine aa rfl (ai rfl rfl) (ar ?_))
     exact aW (k + 1) hkO ae (Wk.of ⟨rfl,rfl,rfl,rfl,rfl,rfl,rfl,rfl,ag⟩ ⟨rfl,rfl,rfl,rfl,rfl,rfl,rfl,by rw [List.range_succ,List.map_append,List.map_singleton,htc];rfl,ag⟩ trivial)
    ·obtain rfl:k=O.length:=by omega
     have hgl:((List.range g).map fun g=>(List.range O.length).map (iN im less (O,M) g)).length=g:=by simp
     have hkl:((List.range O.length).map (iN im less (O,M) g)).length=O.length:=by simp
     (refine a7 (aA (aA (aT (an (ah (aa rfl (aj rfl rfl) (aa rfl (aj rfl rfl) ?_)))))));apply aa rfl;(exact lW (E:=24) rfl ab rfl rfl rfl);apply aa rfl;(exact kE rfl ab rfl rfl (by first | rfl | assumption | (simp;done)) rfl rfl rfl (by first | rfl | assumption | (simp;done)) rfl ae);refine aa rfl (ai rfl rfl) (ar (aM (an (ah (aa rfl (aj rfl rfl) ?_)))));apply aa rfl;exact aP rfl rfl rfl bA;refine aa rfl (ai rfl rfl) (ar ?_))
     exact aW (g + 1) hgn ae (Wk.of ⟨rfl,rfl,rfl,rfl,rfl,rfl,ag⟩ ⟨rfl,rfl,rfl,rfl,rfl,rfl,by rw [List.range_succ (n:=g),List.map_append];rfl,ag⟩ trivial)
   ·obtain rfl:g=ng:=by omega
    (refine a7 (aA (aA (aT (an (ak (ah (aa rfl (aj rfl rfl) (aa rfl (ai rfl rfl) (aa rfl (ai rfl rfl) (ar (an ?_)))))))))));refine aS ?_)
    exact bN (.inl rfl) rfl (.tmp rfl) (.tmp rfl) ⟨rfl,ag⟩ trivial
end Go.Proofs.YtekbhbcgoadciaaGreat
namespace Go.Proofs.YtekbhbcgoadciaaGreat
open Go.RowKit
section
variable {P:Program} {nt:Nat} {S S1:St} {w0 w:World} {ω0:ml} {ω:bY} {η:Env} {a:Act} {Q:Exit→Act→World→Prop}
def fj:List Nat→(List Nat→Prop)→Prop
 | [],p=>p []
 | f :: r,p=>fj r p∧fj r (fun ks=>p (f :: ks))
theorem fj.filter {q:Nat→Bool} :∀ {fs:List Nat} {p:List Nat→Prop},fj fs p→p (fs.filter q)
 | [],p,h=>h
 | f :: r,p,h=>by
  rw [List.filter_cons]
  split
  ·exact fj.filter (p:=fun ks=>p (f :: ks)) h.2
  ·exact fj.filter (p:=p) h.1
theorem fj.map {p p':List Nat→Prop} (h:∀ks,p ks→p' ks):∀ {fs:List Nat},fj fs p→fj fs p'
 | [],k=>h _ k
 | _ :: _,k=>⟨fj.map h k.1,fj.map (fun ks=>h _) k.2⟩
theorem lK {sk:List Nat} {L:Array Bool} {nA:Nat} :∀ {ks:List Nat},ks.Nodup→(∀f∈ks,f < nA∧bL sk f=false∧L.getD f false=false)→missing sk L nA=missing (ks ++ sk) L nA + ks.length
 | [],_,_=>rfl
 | f :: r,hn,h=>by
  have h1:=lK (sk:=sk) (L:=L) (nA:=nA) (ks:=r) (List.nodup_cons.1 hn).2 fun g hg=>h g (by simp [hg])
  have h2:=h f (by simp)
  have h3:bL (r ++ sk) f=false:=by
   cases hb:bL (r ++ sk) f with
   | false=>rfl
   | true=>
    exfalso
    rcases List.mem_append.1 (cH.1 hb) with h4 | h4
    ·exact (List.nodup_cons.1 hn).1 h4
    ·rw [cH.2 h4] at h2;exact absurd h2.2.1 (by simp)
  have:=gw (sk:=r ++ sk) (L:=L) f h2.2.2 h3 nA h2.1
  rw [h1,this,List.cons_append,List.length_cons];omega
def E8 (ops:Array Oper) (nA:Nat) (sk:List Nat) (fs:List Nat) (cls:List (List Nat)):Bool:=
 Nat.ble nA ops.size && (List.range ops.size).all fun i=>match ops[i]? with
  | some o=>(Nat.ble nA i || bL sk i || o.after.all fun e=> !Region.binds .any e || (Nat.blt e.on i && !bL sk e.on)) && ((cls.getD i []).all fun j=>o.after.any fun e=>Region.binds .any e && (Nat.beq j e.on || bL (cls.getD e.on []) j)) &&
    ((Nat.blt i nA && !bL sk i) || (List.range nA).all fun j=>bL fs j || bL sk j || bL (cls.getD i []) j) && (Nat.ble nA i || (cls.getD i []).all fun j=>Nat.blt j i)
  | none=>true
structure Dp (ops:Array Oper) (nA:Nat) (sk:List Nat) (fs:List Nat) (cls:List (List Nat)):Prop where
 size:nA≤ops.size
 less:∀i o,ops[i]? =some o→i < nA→bL sk i=false→∀e∈o.after,Region.binds .any e=true→e.on < i∧bL sk e.on=false
 dep:∀i o,ops[i]? =some o→∀j∈cls.getD i [],∃e∈o.after,Region.binds .any e=true∧(j=e.on∨j∈cls.getD e.on [])
 late:∀i o,ops[i]? =some o→(nA≤i∨bL sk i=true)→∀j,j < nA→bL sk j=false→bL fs j=false→j∈cls.getD i []
 lt:∀i o,ops[i]? =some o→i < nA→∀j∈cls.getD i [],j < i
theorem zx {ops:Array Oper} {nA:Nat} {sk:List Nat} {fs:List Nat} {cls:List (List Nat)} (h:E8 ops nA sk fs cls=true):Dp ops nA sk fs cls:=by
 unfold E8 at h
 simp only [Bool.and_eq_true,Nat.ble_eq] at h
 obtain ⟨h0,h⟩:=h
 have key:∀i o,ops[i]? =some o→_:=fun i o ho=>by
  have hi:i < ops.size:=(Array.getElem?_eq_some_iff.1 ho).1
  have h1:=List.all_eq_true.1 h i (List.mem_range.2 hi)
  simp only [ho,Bool.and_eq_true,Bool.or_eq_true] at h1
  exact h1
 refine ⟨h0,fun i o ho hi hsk e he hb=> ?_,fun i o ho j hj=> ?_,fun i o ho hi j hj hsk hf=> ?_,fun i o ho hi j hj=> ?_⟩
 ·rcases (key i o ho).1.1.1 with (h1 | h1) | h1
  ·have:=Nat.le_of_ble_eq_true h1;omega
  ·rw [hsk] at h1;cases h1
  ·have:=Array.all_eq_true_iff_forall_mem.1 h1 e he
   simp [hb] at this;exact this
 ·have:=List.all_eq_true.1 (key i o ho).1.1.2 j hj
  obtain ⟨e,he,h2⟩:=Array.any_eq_true'.1 this
  simp only [Bool.and_eq_true,Bool.or_eq_true] at h2
  exact ⟨e,he,h2.1,h2.2.imp (fun h=>beq_true h) (fun h=>cH.1 h)⟩
 ·rcases (key i o ho).1.2 with h1 | h1
  ·exfalso
   have h2:i < nA:=by simpa using h1.1
   have h3:bL sk i=false:=by simpa using h1.2
   rcases hi with h4 | h4
   ·omega
   ·rw [h3] at h4;cases h4
  ·have h2:=List.all_eq_true.1 h1 j (List.mem_range.2 hj)
   simp only [Bool.or_eq_true,hsk,hf,Bool.false_eq_true,false_or] at h2
   exact cH.1 h2
 ·rcases (key i o ho).2 with h1 | h1
  ·have:=Nat.le_of_ble_eq_true h1;omega
  ·exact (by have:=List.all_eq_true.1 h1 j hj;simpa using this)
theorem Ao {l:List Oper} {nA:Nat} {sk:List Nat} {cls:List (List Nat)} {ds nms:List Nat} {adds done:List Add} {fs:List Nat} (hfn:fs.Nodup) (hfs:∀f∈fs,f < nA∧bL sk f=false) (hcl:Dp l.toArray nA sk fs cls) (hdr:ft P nt (S.clear ds nms) cls sk (l.take nA) [] done) (hdn:done.reverse=adds) (ok:mj adds cls ds nms)
  (hk:fj fs fun ks=>Rest P w0 ω0 nt l.toArray Q (l.length - missing (ks ++ sk) #[] nA) (fa nA (ks ++ sk) l.length) ((S.clear ds nms).part (fun j=> !bL (ks ++ sk) j) adds)):
  ∀(d:Nat) (L:Array Bool) (a:Act) (w:World),missing sk L nA=d→L.size=l.length→(∀j,L.getD j false=true→j < nA∧bL sk j=false)→(∀i,L.getD i false=true→∀j∈cls.getD i [],L.getD j false=true)→
   Sat w0 ω0 nt ((S.clear ds nms).part (fun j=>L.getD j false) adds) a w→wpAny P .any l.toArray Q (l.length - missing sk #[] nA + d) L a w:=by
 have hsz:nA≤l.length:=by have:=hcl.size;simpa using this
 obtain ⟨⟨r,hr,hrl⟩,hob⟩:=hdr.spec
 rw [hdn] at hr hob
 have hal:adds.length=nA:=by rw [hr];simp [hrl];omega
 have hfull:∀(L:Array Bool) (i:Nat),i∈Region.ready .any l.toArray L→(∀i,L.getD i false=true→∀j∈cls.getD i [],L.getD j false=true)→(∃o,l.toArray[i]? =some o∧L.getD i true=false)∧∀j∈cls.getD i [],L.getD j false=true:=by
  intro L i hi hclosed
  obtain ⟨h0,o,ho,he⟩:=mem_ready.1 hi
  refine ⟨⟨o,ho,h0⟩,fun j hj=> ?_⟩
  obtain ⟨e,hem,hb,hje⟩:=hcl.dep i o ho j hj
  have h1:=he e hem hb
  rcases hje with rfl | hje
  ·exact h1
  ·exact hclosed e.on h1 j hje
 have stop:∀(L:Array Bool) (a:Act) (w:World),L.size=l.length→(∀j,L.getD j false=true→j < nA∧bL sk j=false)→missing (fs ++ sk) L nA=0→Sat w0 ω0 nt ((S.clear ds nms).part (fun j=>L.getD j false) adds) a w→wpAny P .any l.toArray Q (l.length - missing sk #[] nA + missing sk L nA) L a w:=by
  intro L a w hs hsub h0 hsat
  have hall:=ei h0
  obtain ⟨ks,hks⟩:∃ks,fs.filter (fun f=> !L.getD f false)=ks:=⟨_,rfl⟩
  have hkn:ks.Nodup:=by rw [←hks];exact hfn.filter _
  have hkm:∀f,f∈ks↔f∈fs∧L.getD f false=false:=fun f=>by rw [←hks];simp
  have hk1:∀f∈ks,f < nA∧bL sk f=false∧L.getD f false=false:=fun f hf=>⟨(hfs f ((hkm f).1 hf).1).1,(hfs f ((hkm f).1 hf).1).2,((hkm f).1 hf).2⟩
  have hdone:∀j,j < nA→bL (ks ++ sk) j=false→L.getD j false=true:=fun j hj hsk=>by
   cases hb:L.getD j false with
   | true=>rfl
   | false=>
    exfalso
    have h1:bL (fs ++ sk) j=true:=by
     cases h2:bL (fs ++ sk) j with
     | true=>rfl
     | false=>rw [hall j hj h2] at hb;cases hb
    rcases List.mem_append.1 (cH.1 h1) with h3 | h3
    ·have:j∈ks ++ sk:=List.mem_append.2 (.inl ((hkm j).2 ⟨h3,hb⟩))
     rw [cH.2 this] at hsk;cases hsk
    ·have:j∈ks ++ sk:=List.mem_append.2 (.inr h3)
     rw [cH.2 this] at hsk;cases hsk
  have hL:L=fa nA (ks ++ sk) l.length:=by
   apply Array.ext
   ·simp [hs,fa]
   ·intro j h1 h2
    have h3:L[j]? =some L[j]:=Array.getElem?_eq_getElem h1
    have h4:=mC (nA:=nA) (sk:=ks ++ sk) (n:=l.length) (j:=j) ae
    rw [Array.getElem?_eq_getElem h2] at h4
    rw [Option.some.inj h4]
    cases hb:L[j] with
    | true=>
     have hb':L.getD j false=true:=by simp [h1,hb]
     have:=hsub j hb'
     have hnk:bL (ks ++ sk) j=false:=by
      cases h5:bL (ks ++ sk) j with
      | false=>rfl
      | true=>
       exfalso
       rcases List.mem_append.1 (cH.1 h5) with h6 | h6
       ·rw [((hkm j).1 h6).2] at hb';cases hb'
       ·rw [cH.2 h6] at this;exact absurd this.2 (by simp)
     simp [this.1,hnk]
    | false=>
     by_cases hj:j < nA
     ·cases hsk:bL (ks ++ sk) j with
      | true=>simp
      | false=>
       have:=hdone j hj hsk
       simp [h1,hb] at this
     ·simp [hj]
  have hm1:=lK (L:=L) hkn hk1
  have hm2:=lK (sk:=sk) (L:= #[]) (nA:=nA) hkn fun f hf=>⟨(hk1 f hf).1,(hk1 f hf).2.1,rfl⟩
  have hm0:missing (ks ++ sk) L nA=0:=eM hdone
  have hmn:=tk (sk:=sk) (L:= #[]) nA
  have e:l.length - missing (ks ++ sk) #[] nA=l.length - missing sk #[] nA + missing sk L nA:=by omega
  rw [←e]
  have hkk:=fj.filter (q:=fun f=> !L.getD f false) hk
  rw [hks] at hkk
  refine hkk.go a w ((St.le.wk (oA (ℓ1:=fun j=> !bL (ks ++ sk) j) (ℓ2:=fun j=>L.getD j false) ok (fun _ _ h=>h) fun j A hj hsk=> ?_) fun _ _ h=>h).go _ _ _ a w hsat) |> fun h=>by rw [←hL] at h;exact h
  have hjl:j < adds.length:=(List.getElem?_eq_some_iff.1 hj).1
  exact hdone j ae (by simpa using hsk)
 intro d
 induction d with
 | zero=>
  intro L a w hm hs hsub hclosed hsat
  have h0:missing (fs ++ sk) L nA=0:=eM fun j hj hsk=>ei hm j hj (by
   cases h5:bL sk j with
   | false=>rfl
   | true=>rw [cH.2 (List.mem_append.2 (.inr (cH.1 h5)))] at hsk;cases hsk)
  have:=stop L a w hs hsub h0 hsat
  rw [hm] at this;exact this
 | succ d ih=>
  intro L a w hm hs hsub hclosed hsat
  by_cases h0:missing (fs ++ sk) L nA=0
  ·have:=stop L a w hs hsub h0 hsat
   rw [hm] at this;exact this
  refine ⟨fun hnil=> ?_,fun i hi=> ?_⟩
  ·exfalso
   obtain ⟨j,hj,hjs',hjf,hlo⟩:=fY (k:=nA) (by omega:missing sk L nA≠0)
   have hjl:j < l.length:=by omega
   have hjs:j < L.size:=by omega
   have:j∈Region.ready .any l.toArray L:=by
    refine mem_ready.2 ⟨?_,l[j],by simp [hjl],fun e he hb=> ?_⟩
    ·simp [hjs] at hjf ⊢
     exact hjf
    ·have h5:=hcl.less j l[j] (by simp [hjl]) hj hjs' e he hb
     exact hlo e.on h5.1 h5.2
   rw [hnil] at this;cases this
  ·obtain ⟨⟨o,ho,hi0⟩,hdep⟩:=hfull L i hi hclosed
   have hil:i < l.length:=by have:=(Array.getElem?_eq_some_iff.1 ho).1;simpa using this
   have his:i < L.size:=by omega
   have hif:L.getD i false=false:=by simp [his] at hi0 ⊢;exact hi0
   have hnl:¬(nA≤i∨bL sk i=true):=fun h=>by
    refine h0 (eM (sk:=fs ++ sk) (L:=L) (k:=nA) fun j hj hsk=> ?_)
    have h5:bL fs j=false∧bL sk j=false:=by
     constructor
     ·cases h6:bL fs j with
      | false=>rfl
      | true=>rw [cH.2 (List.mem_append.2 (.inl (cH.1 h6)))] at hsk;cases hsk
     ·cases h6:bL sk j with
      | false=>rfl
      | true=>rw [cH.2 (List.mem_append.2 (.inr (cH.1 h6)))] at hsk;cases hsk
    exact hdep j (hcl.late i o ho h j hj h5.2 h5.1)
   have hiA:i < nA:=by
    rcases Nat.lt_or_ge i nA with h | h
    ·exact h
    ·exact absurd (.inl h) hnl
   have hisk:bL sk i=false:=by
    cases hsk:bL sk i with
    | false=>rfl
    | true=>exact absurd (.inr hsk) hnl
   have hot:(l.take nA)[i]? =some o:=by rw [List.getElem?_take,if_pos hiA];simpa using ho
   obtain ⟨A,hA,hg,hstp⟩:=hob i o hot (by simpa using hisk)
   simp only [List.length_nil,Nat.zero_add] at hA hstp
   have hle:((S.clear ds nms).gG (bL (cls.getD i [])) (adds.take i).reverse).le ((S.clear ds nms).part (fun j=>L.getD j false) adds):=g9 ok (fun j B hj=>by
     rw [List.reverse_reverse] at hj
     rw [List.getElem?_take] at hj;split at hj
     ·exact hj
     ·cases hj) fun j B _ hj=>hdep j (cH.1 hj)
   have hst:=(hstp _ hle).go w0 ω0 a w Q hsat
   unfold wpOp
   simp only [ho]
   rw [if_pos (by simp [Region.wanted,hg])]
   refine .inl (Oper.wp_mono (fun a' w' hsat'=> ?_) hst)
   have hsat2:=(wz ok hA hif fun j hj hm'=>by have:=hclosed j hj i hm';rw [hif] at this;cases this).go _ _ _ a' w' hsat'
   have hnew:∀j,(L.setIfInBounds i true).getD j false=(Nat.beq j i || L.getD j false):=fun j=>by
    by_cases e:j=i
    ·subst e;simp [his]
    ·rw [getD_set_ne false (fun e'=>e e'.symm),dy e,Bool.false_or]
   refine ih (L.setIfInBounds i true) a' w' ?_ (by simp [hs]) (fun j hj=> ?_) (fun j hj k hk'=> ?_) ?_
   ·have:=iJ his hif hisk nA hiA;omega
   ·rw [hnew] at hj
    by_cases e:j=i
    ·rw [e];exact ⟨hiA,hisk⟩
    ·rw [dy e,Bool.false_or] at hj;exact hsub j hj
   ·rw [hnew] at hj ⊢
    by_cases e:j=i
    ·subst e;rw [hdep k hk'];simp
    ·rw [dy e,Bool.false_or] at hj;rw [hclosed j hj k hk'];simp
   ·have:(fun j=>(L.setIfInBounds i true).getD j false)=fun j=>(Nat.beq j i || L.getD j false):=funext hnew
    rw [this];exact hsat2
theorem nn {id:Nat} {l:List Oper} (nA:Nat) (sk:List Nat) (fs:List Nat) (cls:List (List Nat)) (ds nms:List Nat) {done:List Add} (hm:P.follows .mixedOrders=true) (hcl:E8 l.toArray nA sk fs cls=true) (hf':(nodupB fs && fs.all fun f=>Nat.blt f nA && !bL sk f)=true) (hdr:ft P nt (S.clear ds nms) cls sk (l.take nA) [] done) (ok:uZ done.reverse cls ds nms=true)
  (hk:fj fs fun ks=>Rest P w0 ω0 nt l.toArray Q (l.length - missing (ks ++ sk) #[] nA) (fa nA (ks ++ sk) l.length) ((S.clear ds nms).gG (fun j=> !bL (ks ++ sk) j) done)):fJ P w0 ω0 nt S (.region id l.toArray true) Q:=by
 have hc:=zx hcl
 have hsz:nA≤l.length:=by have:=hc.size;simpa using this
 have hk':=fj.map (p':=fun ks=>Rest P w0 ω0 nt l.toArray Q (l.length - missing (ks ++ sk) #[] nA) (fa nA (ks ++ sk) l.length) ((S.clear ds nms).part (fun j=> !bL (ks ++ sk) j) done.reverse)) (fun ks hk=>
  ⟨fun a w hs=>hk.go a w ((St.le.wk (g9 (fk ok) (fun _ _ h=>h) fun _ _ _ h=>h) fun _ _ h=>h).go _ _ _ a w hs)⟩) hk
 have hfn:fs.Nodup:=by simp only [Bool.and_eq_true] at hf';exact j9 hf'.1
 have hfs:∀f∈fs,f < nA∧bL sk f=false:=fun f hf=>by
  simp only [Bool.and_eq_true] at hf'
  have:=List.all_eq_true.1 hf'.2 f hf
  simpa using this
 have hle:∀k,missing sk #[] k≤k:=fun k=>by
  induction k with
  | zero=>exact Nat.le_refl _
  | succ k ih=>simp only [missing];split<;>omega
 refine ⟨fun a w hs=>wp_region_any hm ?_⟩
 have hfin:=Ao hfn hfs hc hdr rfl (fk ok) hk' (missing sk #[] nA) (Array.replicate l.length false) a { w with drawn:=w.drawn + 1 } ?_ (by simp) (fun j hj=> ?_) (fun i hi=> ?_) ?_
 ·have:=hle nA
  rw [show l.length - missing sk #[] nA + missing sk #[] nA=l.length by omega] at hfin
  simpa using hfin
 ·have:∀k,k≤l.length→missing sk (Array.replicate l.length false) k=missing sk #[] k:=fun k=>by
   induction k with
   | zero=>intro _;rfl
   | succ k ih=>
    intro hk
    simp only [missing]
    rw [ih ae]
    have:(Array.replicate l.length false).getD k false=false:=by simp [show k < l.length by omega]
    rw [this];rfl
  exact this nA hsz
 ·exfalso
  by_cases h:j < l.length
  ·simp [h] at hj
  ·simp [h] at hj
 ·exfalso
  by_cases h:i < l.length
  ·simp [h] at hi
  ·simp [h] at hi
 ·have h1:=(oI S ds nms).go _ _ _ a _ (oy hs)
  have hf:∀j,(Array.replicate l.length false).getD j false=false:=fun j=>by
   by_cases h:j < l.length<;>simp [h]
  refine (Wk.less (S:=S.clear ds nms) (S':=(S.clear ds nms).part (fun j=>(Array.replicate l.length false).getD j false) done.reverse) (fun t av h=> ?_) (fun x c h=> ?_) fun _ _ h=>h).go _ _ _ a _ h1
  ·have h:(match wI (fun j=>(Array.replicate l.length false).getD j false) 0 done.reverse t with | some av=>some av | none=>(S.clear ds nms).sl t)=some av:=h
   split at h
   ·rename_i av' h2
    obtain ⟨j,A,_,h3,_⟩:=gk h2
    rw [hf] at h3;cases h3
   ·exact h
  ·have h:(match wF (fun j=>(Array.replicate l.length false).getD j false) 0 done.reverse x with | some c=>some c | none=>(S.clear ds nms).ch x)=some c:=h
   split at h
   ·rename_i av' h2
    obtain ⟨j,A,_,h3,_⟩:=gq h2
    rw [hf] at h3;cases h3
   ·exact h
end
end Go.Proofs.YtekbhbcgoadciaaGreat
namespace Go.Proofs.YtekbhbcgoadciaaGreat
open Go.RowKit
def xO:bY:=fun _=>none
def Hv (w:World) (x:Nm) (c:Ch) (h:Hd) (r:Nat→Hd):Prop:=∀η:Env,(∀i,η.r x i=r i)→eA η xO w x h c
abbrev Lay:=List (Nm×(Ch×Hd×(Nat→Hd)))
def sI (l:Lay):Env:= { h:=fun x=>(lk x l).map fun q=>q.2.1,r:=fun x i=>match lk x l with | some q=>q.2.2 i | none=>⟨none,0,1⟩ }
theorem Eh {α β:Type} (f:α→β):∀(l:List (Nat×α)) (x:Nat),lk x (l.map fun p=>(p.1,f p.2))=(lk x l).map f
 | [],x=>rfl
 | p :: r,x=>by
  simp only [List.map_cons,lk]
  rw [Eh f r x]
  cases Nat.beq x p.1<;>rfl
theorem mem_of {w:World} {l:Lay} (h:∀p∈l,Hv w p.1 p.2.1 p.2.2.1 p.2.2.2):Mem (sI l) xO w (fun x=>lk x (l.map fun p=>(p.1,p.2.1))):=by
 have hl:∀x,lk x (l.map fun p=>(p.1,p.2.1))=(lk x l).map fun q=>q.1:=fun x=>Eh (fun q=>q.1) l x
 refine ⟨fun x c hx=> ?_,fun x hx=> ?_⟩
 ·replace hx:=(hl x).symm.trans hx
  obtain ⟨q,hq,rfl⟩:=Option.map_eq_some_iff.1 hx
  refine ⟨q.2.1,by simp [sI,hq],h (x,q) (lg hq) _ fun i=>by simp [sI,hq]⟩
 ·replace hx:=(hl x).symm.trans hx
  have:lk x l=none:=by simpa using hx
  simp [sI,this]
theorem s8 {l:Lay} {x:Nm} {q:Ch×Hd×(Nat→Hd)} {n:Nat} (h:lk x l=some q):c6 (sI l) (.sl x 0 n) (.slice q.2.1.ao n q.2.1.c):=
 ⟨⟨_,_,rfl⟩,fun h' hh=>by
  have hh:(lk x l).map (fun q=>q.2.1)=some h':=hh
  rw [h] at hh;simp at hh;subst hh
  exact ⟨_,rfl,fun _=>rfl,fun h0=>absurd h0 ae⟩⟩
theorem JZ {E:Nat} {w:World} {v:Value} {zs:List Int} (x E':Nat) (h:y6 E w v zs):∃hd r,v= .slice hd.ao zs.length hd.c∧Hv w x ⟨false,E',1, .bR (aL zs)⟩ hd r:=by
 obtain ⟨ao,n,c,rfl,ho⟩:=h
 have hl:=ho.len
 simp at hl
 subst hl
 refine ⟨⟨ao,c,1⟩,fun _=>⟨none,0,1⟩,rfl,fun η _=>⟨rfl, ?_,fun j hj=> ?_⟩⟩
 ·show (aL zs).length≤c * 1
  rw [bc,Nat.mul_one]
  rcases Nat.eq_zero_or_pos zs.length with h0 | h0
  ·omega
  ·obtain ⟨g,_,_,_,h1,_⟩:=ho.form h0;exact h1
 ·have hj:j < zs.length:=by have:j < (aL zs).length:=hj;rwa [bc] at this
  obtain ⟨g,rfl,_,hlt,_,hc,_⟩:=ho.form ae
  refine ⟨g,0,I6 (aC zs j),rfl,rfl,hlt, ?_,bl hj⟩
  rw [Nat.zero_add,hc j hj]
  exact bl hj
theorem Jf {E1 E:Nat} {w:World} {lo hi:Nat} {v:Value} {zss:List (List Int)} (x E' E1':Nat) (h:qS E1 E w lo hi v zss):∃hd r,v= .slice hd.ao zss.length hd.c∧Hv w x ⟨false,E',1, .rows E1' (bV zss) []⟩ hd r:=by
 obtain ⟨ao,n,c,us,rfl,ho⟩:=h
 have hl:=ho.len
 subst hl
 have hr:∀j,∃q:Hd,q.k=1∧∀u d,us[j]? =some u→zss[j]? =some d→u=Value.slice q.ao d.length q.c∧∀(η:Env),F0 xO w q (aL d).length fun i u=>(aL d)[i]? =some u:=fun j=>by
  by_cases hj:j < zss.length
  ·obtain ⟨u,d,hu,hd,⟨a',n',c',rfl,h1⟩,_⟩:=ho.get hj
   have hl:=h1.len
   simp at hl
   subst hl
   refine ⟨⟨a',c',1⟩,rfl,fun u2 d2 hu2 hd2=> ?_⟩
   rw [hu] at hu2;rw [hd] at hd2
   obtain rfl:=Option.some.inj hu2
   obtain rfl:=Option.some.inj hd2
   obtain ⟨hd',r',e1,e2⟩:=JZ x E' (⟨a',_,c',rfl,h1⟩:y6 E1 w _ d)
   injection e1 with f1 f2 f3
   refine ⟨rfl,fun η=> ?_⟩
   have e3:=e2 { h:=fun _=>none,r:=fun _=>r' } (fun _=>rfl)
   obtain ⟨e4,e5⟩:=e3
   have e5:F0 xO w hd' (aL d).length _:=e5
   have:hd'=⟨a',c',1⟩:=by
    cases hd';simp at f1 f3 e4;simp [f1,f3,e4]
   subst this
   exact e5
  ·refine ⟨⟨none,0,1⟩,rfl,fun u d _ hd=> ?_⟩
   rw [List.getElem?_eq_none ae] at hd;cases hd
 refine ⟨⟨ao,c,1⟩,fun j=>Classical.choose (hr j),rfl,fun η he=>⟨rfl, ?_,fun j hj=> ?_⟩⟩
 ·show (bV zss).length≤c * 1
  rw [cZ,Nat.mul_one]
  rcases Nat.eq_zero_or_pos zss.length with h0 | h0
  ·omega
  ·obtain ⟨g,_,_,_,h1,_⟩:=ho.own.form h0;exact h1
 ·have hj:j < zss.length:=by have:j < (bV zss).length:=hj;rwa [cZ] at this
  obtain ⟨g,rfl,_,hlt,_,hc,_⟩:=ho.own.form ae
  obtain ⟨u,d,hu,hd,h1,_⟩:=ho.get hj
  have hs:=Classical.choose_spec (hr j)
  obtain ⟨k1,k2⟩:=hs.2 u d hu hd
  refine ⟨g,0,u,rfl,rfl,hlt,by rw [Nat.zero_add,hc j hj,hu],by rw [k1];rfl,fun _ vs hvs=> ?_⟩
  have hvd:vs=aL d:=by
   have:(bV zss)[j]? =some (aL d):=by simp [bV,hd]
   rw [this] at hvs;exact (Option.some.inj hvs).symm
  subst hvd
  rw [he j]
  exact ⟨by rw [k1,bc],hs.1,k2 η⟩
theorem FC.call {P:Program} {f:FuncId} {ins outs:List (Nm×Ch)} {args:List AV} {res:AV} {back:List (Nat×AV)} (h:FC P f ins args outs res back) {w:World} {l:Lay} {us:List Value} (hl:∀p∈l,Hv w p.1 p.2.1 p.2.2.1 p.2.2.2) (hi:(l.map fun p=>(p.1,p.2.1))=ins)
  (hd:nB (sI l) args us):Calls P f us.toArray w fun e w'=>∃v η ω,e= .returned v∧Den η res v∧Mem η ω w' (fun x=>lk x outs)∧Below w.heap.size w w'∧∀b,b < w.heap.size→ω b=none:=by
 subst hi
 refine (h w (sI l) xO us (mem_of hl) hd).mono ?_
 rintro e w' ⟨v,η,ω,he,h1,h2,h3,_⟩
 exact ⟨v,η,ω,he,h1,h2,⟨h3.os,h3.tape,h3.output,h3.size,fun b hb=>(h3.block b hb rfl).1⟩,fun b hb=>(h3.block b hb rfl).2⟩
section
variable {η:Env} {ω:bY} {w':World} {lo:Nat} {outs:List (Nm×Ch)}
theorem dJ.own {ow:Nm×Option Nat} {h:Hd} {E:Nat} {xs:List Value} {len:Nat} {cell:Nat→Value→Prop} (hk:h.k=1) (hv:dJ ω w' ow h E len cell) (hlo:∀b,b < lo→ω b=none) (hn:len≤4398046511104) (hx:xs.length=len)
  (hc:∀j u,j < len→(∃b o,h.ao=some ⟨b,o,none⟩∧w'.cell? ⟨b,o + j,none⟩=some u)→xs[j]? =some u):
  Own w' lo E h.ao len h.c xs∧∀g,bk h.ao=some g→g < w'.heap.size∧ω g=some ow:=by
 rcases hv with ⟨h1,h2,h3⟩ | ⟨b,o,cs,h1,h2,h3,⟨h4,h4'⟩,h5,h6,h7⟩
 ·subst h3
  refine ⟨⟨⟨by simpa using hx, .inl ⟨by rw [h1,h2],rfl⟩⟩,hn⟩,fun g hg=>by rw [h1] at hg;cases hg⟩
 ·subst h4
  rw [hk,Nat.mul_one] at h4' h5
  have hb:lo≤b:=by
   rcases Nat.lt_or_ge b lo with h8 | h8
   ·rw [hlo b h8] at h2;cases h2
   ·exact h8
  refine ⟨⟨⟨by simpa using hx, .inr ⟨b,h.c,cs,by rw [h1],hb,h3,h5,h6,by rw [h4',Nat.mul_one], ?_⟩⟩,hn⟩,fun g hg=> ?_⟩
  ·apply List.ext_getElem?
   intro j
   rw [Nat.mul_one,List.getElem?_take]
   by_cases hj:j < len
   ·obtain ⟨u,hu,_⟩:=h7 j hj
    rw [Nat.zero_add] at hu
    rw [if_pos hj,hc j u hj ⟨b,0,h1,by rw [Nat.zero_add,cell_of_row w' b j cs E (0,0) h3];exact hu⟩]
    simpa using hu
   ·rw [if_neg hj,List.getElem?_eq_none ae]
  ·rw [h1] at hg
   simp [bk] at hg
   subst hg
   exact ⟨fm h3,h2⟩
theorem Kd {x E:Nat} {zs:List Int} {v:Value} (hm:Mem η ω w' (fun x=>lk x outs)) (hlo:∀b,b < lo→ω b=none) (hx:lk x outs=some ⟨true,E,1, .bR (aL zs)⟩) (hv:c6 η (.sl x 0 zs.length) v) (hn:zs.length≤4398046511104):ff E w' lo w'.heap.size v zs:=by
 obtain ⟨h,h1,h2,h3⟩:=hm.1 x _ hx
 obtain ⟨ao,rfl,h4,_⟩:=hv.2 h h1
 have h3:dJ ω w' (x,none) h E (aL zs).length (cI η ω w' true x (.bR (aL zs))):=h3
 rw [h4 rfl,Nat.sub_zero]
 obtain ⟨k1,k2⟩:=dJ.own (xs:=aL zs) h2 h3 hlo (by rw [bc];exact hn) rfl fun j u hj ⟨b,o,e1,e2⟩=>by
  obtain ⟨b',o',u',f1,f2,f3⟩:=lN.get (own:=true) h3 hj
  rw [e1] at f1;injection f1 with f1;injection f1 with f1 f1';subst f1 f1'
  rw [e2] at f2
  obtain rfl:=Option.some.inj f2
  exact f3
 rw [bc] at k1
 exact ⟨⟨_,_,_,rfl,k1.mono (Nat.zero_le _)⟩,fun g hg=>by
  rw [cr] at hg
  exact ⟨(k1.lt g hg).1,(k2 g hg).1⟩⟩
theorem Kb {x E F:Nat} {zss:List (List Int)} {v:Value} (hm:Mem η ω w' (fun x=>lk x outs)) (hlo:∀b,b < lo→ω b=none) (hx:lk x outs=some ⟨true,E,1, .rows F (bV zss) []⟩) (hv:c6 η (.sl x 0 zss.length) v) (hn:zss.length≤4398046511104) (hr:∀zs∈zss,zs.length≤4398046511104):
  qS F E w' lo w'.heap.size v zss:=by
 obtain ⟨h,h1,h2,h3⟩:=hm.1 x _ hx
 obtain ⟨ao,rfl,h4,_⟩:=hv.2 h h1
 have h3:dJ ω w' (x,none) h E (bV zss).length (cI η ω w' true x (.rows F (bV zss) [])):=h3
 rw [h4 rfl,Nat.sub_zero]
 have hlen:(bV zss).length=zss.length:=cZ zss
 obtain ⟨us,hus,hul⟩:∃us:List Value,(∀j,j < zss.length→us[j]? =some (.slice (η.r x j).ao (bn zss j).length (η.r x j).c))∧us.length=zss.length:=
  ⟨(List.range zss.length).map fun j=> .slice (η.r x j).ao (bn zss j).length (η.r x j).c,fun j hj=>by simp [hj],by simp⟩
 have cell:∀j,j < zss.length→∃b o,h.ao=some ⟨b,o,none⟩∧w'.cell? ⟨b,o + j,none⟩=some (.slice (η.r x j).ao (bn zss j).length (η.r x j).c)∧(η.r x j).k=1∧dJ ω w' (x,some j) (η.r x j) F (aL (bn zss j)).length fun i u=>(aL (bn zss j))[i]? =some u:=fun j hj=>by
  obtain ⟨b',o',u',f1,f2,f3,f4⟩:=lN.get (own:=true) h3 (j:=j) (by rw [hlen];exact hj)
  obtain ⟨g1,g2,g3⟩:=f4 (by simp) (aL (bn zss j)) (cf hj)
  rw [bc] at g1
  exact ⟨b',o',f1,by rw [f2,g1],g2,g3⟩
 obtain ⟨k1,k2⟩:=dJ.own (xs:=us) h2 h3 hlo (by rw [hlen];exact hn) (by rw [hul,hlen]) fun j u hj ⟨b,o,e1,e2⟩=>by
  rw [hlen] at hj
  obtain ⟨b',o',f1,f2,_⟩:=cell j hj
  rw [e1] at f1;injection f1 with f1;injection f1 with f1 f1';subst f1 f1'
  rw [e2] at f2
  rw [hus j hj,Option.some.inj f2]
 rw [hlen] at k1
 have row:∀j,j < zss.length→Own w' lo F (η.r x j).ao (bn zss j).length (η.r x j).c (aL (bn zss j))∧∀g,bk (η.r x j).ao=some g→g < w'.heap.size∧ω g=some (x,some j):=fun j hj=>by
  obtain ⟨_,_,_,_,g2,g3⟩:=cell j hj
  have hb:(bn zss j).length≤4398046511104:=hr _ (gb hj)
  have:=dJ.own (lo:=lo) (xs:=aL (bn zss j)) g2 g3 hlo (by rw [bc];exact hb) rfl fun i u hi ⟨b,o,e1,e2⟩=>by
   obtain ⟨b',o',u',f1,f2,f3⟩:=lN.get (own:=true) g3 hi
   rw [e1] at f1;injection f1 with f1;injection f1 with f1 f1';subst f1 f1'
   rw [e2] at f2
   obtain rfl:=Option.some.inj f2
   exact f3
  rw [bc] at this
  exact this
 have hlt:∀ {j:Nat} {u:Value},us[j]? =some u→j < zss.length∧u= .slice (η.r x j).ao (bn zss j).length (η.r x j).c:=fun {j u} hu=>by
  have hj:j < zss.length:=by have:=(List.getElem?_eq_some_iff.1 hu).1;omega
  rw [hus j hj] at hu
  exact ⟨hj,(Option.some.inj hu).symm⟩
 refine ⟨_,_,_,us,rfl, { own:=k1,top:=fun g hg=>(k2 g hg).1,len:=rfl,el:=fun j u d hu hd=> ?_,rng:=fun j u hu g hg=> ?_,out:=fun j u g hu hg=> ?_,apart:=fun i j u u' g hij hu hu' hg=> ?_ }⟩
 ·obtain ⟨hj,rfl⟩:=hlt hu
  have:d=bn zss j:=(uw hd).symm
  subst this
  exact ⟨_,_,_,rfl,(row j hj).1.mono (Nat.zero_le _)⟩
 ·obtain ⟨hj,rfl⟩:=hlt hu
  rw [cr] at hg
  exact ⟨((row j hj).1.lt g hg).1,((row j hj).2 g hg).1⟩
 ·obtain ⟨hj,rfl⟩:=hlt hu
  rw [cr] at hg
  intro e
  have h8:=((row j hj).2 g hg).2
  rw [(k2 g e).2] at h8
  simp at h8
 ·obtain ⟨hi,rfl⟩:=hlt hu
  obtain ⟨hj,rfl⟩:=hlt hu'
  rw [cr] at hg ⊢
  intro e
  have h8:=((row i hi).2 g hg).2
  rw [((row j hj).2 g e).2] at h8
  simp at h8
  omega
end
theorem Dh {E1 E:Nat} {w:World} {lo hi:Nat} :qS E1 E w lo hi (.slice none 0 0) []:=
 ⟨none,0,0, [],rfl,mx.lf (Own.Ex _ _ _) (fun g hg=>nomatch hg)⟩
theorem xy {E:Nat} {w:World} {lo hi:Nat} :ff E w lo hi (.slice none 0 0) []:=⟨⟨none,0,0,rfl,Own.Ex _ _ _⟩,H4 _ _ _ _⟩
theorem dS {P:Program} {f:FuncId} {ins:List (Nm×Ch)} {args:List AV} {r:Value} (h:∀w η ω us,Mem η ω w (fun x=>lk x ins)→nB η args us→Calls P f us.toArray w fun e w'=>e= .returned r∧Below w.heap.size w w'):FC P f ins args [] (vv r) []:=by
 intro w η ω us hm hd
 refine (h w η ω us hm hd).mono ?_
 rintro e w' ⟨rfl,hb⟩
 exact ⟨r, { h:=fun _=>none,r:=η.r },ω,rfl,rfl,⟨fun x c hx=>(nomatch hx),fun x _=>rfl⟩,⟨hb.os,hb.tape,hb.output,hb.size,fun b hlt hn=>⟨hb.block b hlt,hn⟩⟩,fun t av ht=>(nomatch ht)⟩
section
variable {η:Env} {ω:bY} {w:World} {ins:List (Nm×Ch)}
theorem Fg {x:Nat} {own:Bool} {E:Nat} {zs:List Int} {v:Value} (hm:Mem η ω w (fun x=>lk x ins)) (hx:lk x ins=some ⟨own,E,1, .bR (aL zs)⟩) (hv:c6 η (.sl x 0 zs.length) v) (hn:zs.length≤17592186044416):∃ao c,v= .slice ao zs.length c∧dC w ao zs.length zs:=by
 obtain ⟨h,h1,h2,h3⟩:=hm.1 x _ hx
 obtain ⟨ao,rfl,h4,_⟩:=hv.2 h h1
 have h3:lN own ω w (x,none) h E (aL zs).length (cI η ω w own x (.bR (aL zs))):=h3
 rw [h4 rfl]
 refine ⟨_,_,rfl,rfl,hn,fun h0=> ?_⟩
 obtain ⟨b,o,u,f1,_,_⟩:=h3.get (j:=0) (by rw [bc];exact h0)
 refine ⟨b,o,f1,fun j hj=> ?_⟩
 obtain ⟨b',o',u',g1,g2,g3⟩:=h3.get (j:=j) (by rw [bc];exact hj)
 rw [f1] at g1;injection g1 with g1;injection g1 with g1 g1';subst g1 g1'
 have g3:(aL zs)[j]? =some u':=g3
 rw [bl hj] at g3
 rw [g2,←g3]
theorem IM {x:Nat} {own:Bool} {E F:Nat} {zss:List (List Int)} {v:Value} (hm:Mem η ω w (fun x=>lk x ins)) (hx:lk x ins=some ⟨own,E,1, .rows F (bV zss) []⟩) (hv:c6 η (.sl x 0 zss.length) v) (hn:zss.length≤17592186044416) (hr:∀zs∈zss,zs.length≤17592186044416):∃ao c,v= .slice ao zss.length c∧kn w ao zss.length zss:=by
 obtain ⟨h,h1,h2,h3⟩:=hm.1 x _ hx
 obtain ⟨ao,rfl,h4,_⟩:=hv.2 h h1
 have h3:lN own ω w (x,none) h E (bV zss).length (cI η ω w own x (.rows F (bV zss) [])):=h3
 rw [h4 rfl]
 refine ⟨_,_,rfl,rfl,hn,fun h0=> ?_⟩
 obtain ⟨b,o,u,f1,_,_⟩:=h3.get (j:=0) (by rw [cZ];exact h0)
 refine ⟨b,o,f1,fun j hj=> ?_⟩
 obtain ⟨b',o',u',g1,g2,g3,g4⟩:=h3.get (j:=j) (by rw [cZ];exact hj)
 rw [f1] at g1;injection g1 with g1;injection g1 with g1 g1';subst g1 g1'
 obtain ⟨k1,k2,k3⟩:=g4 (by simp) (aL (bn zss j)) (cf hj)
 rw [bc] at k1
 refine ⟨u',g2,_,_,_,k1,rfl,hr _ (gb hj),fun h0=> ?_⟩
 obtain ⟨b2,o2,u2,m1,_,_⟩:=k3.get (j:=0) (by rw [bc];exact h0)
 refine ⟨b2,o2,m1,fun i hi=> ?_⟩
 obtain ⟨b3,o3,u3,n1,n2,n3⟩:=k3.get (j:=i) (by rw [bc];exact hi)
 rw [m1] at n1;injection n1 with n1;injection n1 with n1 n1';subst n1 n1'
 rw [bl hi] at n3
 rw [n2,←n3]
end
end Go.Proofs.YtekbhbcgoadciaaGreat
namespace Go.Proofs.YtekbhbcgoadciaaGreat
open Go.RowKit
abbrev Kf (m n:Nat) (b:Bool):List A1:= [.sl 1000 0 m, .sl 1001 0 n, .val (.bool b)]
abbrev D4 (m n:Nat) (b:Bool):Ch:=⟨false,124,3, .flat (Kf m n b)⟩
abbrev om (m n:Nat) (b:Bool):Ch:=⟨true,124,3, .flat (Kf m n b)⟩
theorem rW (im:List (List Int)) (less:List Int) (m n c:Nat) (b:Bool) (hn:less.length=n) (hd:Down less) (hc:c < less.length):
  FC Tryz.prog 151 [(1010,D4 m n b),(1000,jg im),(1001,oW less)] [o1 (.ptr 1010 0),vv (I6 c)] [] (vv (I6 (root less c))) []:=by
 subst hn
 refine bj (nt:=22) Tryz.func151 rfl rfl (by simp) fun w0 ω0=> ?_
 (refine ak (ah (aa rfl (ai rfl rfl) (ar (an (ak (aB ?_)))))))
 refine bz (fun k:Nat=>St.of [(0,o1 (.ptr 1010 0)),(1,vv (I6 k))] [(1010,D4 m less.length b),(1001,oW less)]) (fun k=>k < less.length∧root less k=root less c) (fun k=>k) c ⟨hc,rfl⟩ (Wk.of ⟨rfl,rfl,ag⟩ ⟨rfl,rfl,ag⟩ trivial) ?_
 rintro k ⟨hk,hr⟩
 (refine ak (ak (ah (aa rfl (aj rfl rfl) (aa rfl (bC rfl rfl rfl) ?_))));apply aa rfl;(exact aI (d:=1) rfl rfl rfl ab);apply aa rfl;exact aZ rfl ab rfl rfl rfl rfl;apply aa rfl;exact aj rfl rfl;apply aa rfl;exact aR rfl rfl rfl rfl rfl ab a9 aJ a8;apply aa rfl;exact bf rfl ab rfl rfl rfl aQ;refine aa rfl (aj rfl rfl) (aa rfl (aG rfl rfl rfl rfl) (ar (an ?_))))
 have hk2:=hd k hk
 refine ax rfl (fun h=> ?_) (fun h=> ?_)
 ·have hne:aC less k≠k:=by simpa using h
  have hz:aC less k=(((aC less k).toNat:Nat):Int):=(Int.toNat_of_nonneg hk2.1).symm
  (refine aE (an (aB (ah (aa rfl (aj rfl rfl) (aa rfl (bC rfl rfl rfl) ?_)))));apply aa rfl;(exact aI (d:=1) rfl rfl rfl ab);apply aa rfl;exact aZ rfl ab rfl rfl rfl rfl;apply aa rfl;exact aj rfl rfl;apply aa rfl;exact aR rfl rfl rfl rfl rfl ab a9 aJ a8;apply aa rfl;exact bf rfl ab rfl rfl rfl aQ;refine aa rfl (ai rfl rfl) (ar (aM ?_)))
  exact aW (aC less k).toNat ⟨ae,(fK hd hk hne).symm.trans hr⟩ ae (Wk.of ⟨rfl,congrArg (fun z=>some (vv (I6 z))) hz,ag⟩ ⟨rfl,rfl,ag⟩ trivial)
 ·have he:aC less k=k:=by simpa using h
  have e:k=root less c:=by rw [←hr,dj he]
  (refine a7 (aA (aA (aT (an (ak (ah (aa rfl (aj rfl rfl) (aa rfl (ai rfl rfl) (ar (an (aS ?_))))))))))))
  exact bu (.inl rfl) rfl (.tmp (congrArg (fun z:Nat=>some (vv (I6 z))) e)) trivial trivial
theorem mL (im:List (List Int)) (less:List Int) (m n c g:Nat) (b:Bool) (hm:im.length=m) (hn:less.length=n) (hd:Down less) (hc:c < im.length) (hg:g < (bn im c).length) (he:bZ im c g < less.length):
  FC Tryz.prog 127 [(1010,D4 m n b),(1000,jg im),(1001,oW less)] [o1 (.ptr 1010 0),vv (I6 c),vv (I6 g)] [] (vv (I6 (image im less c g))) []:=by
 subst hm hn
 refine bj (nt:=23) Tryz.func127 rfl rfl (by simp) fun w0 ω0=> ?_
 (refine ak (ah (aa rfl (ai rfl rfl) (ar (an (ak (ak (ah (aa rfl (aj rfl rfl) (aa rfl (bC rfl rfl rfl) ?_)))))))));apply aa rfl;(exact aI (d:=0) rfl rfl rfl ab);apply aa rfl;exact aZ rfl ab rfl rfl rfl rfl;apply aa rfl;exact aj rfl rfl;apply aa rfl;exact aR rfl rfl rfl rfl rfl ab a9 aJ a8;apply aa rfl;exact bF rfl ab rfl rfl rfl aQ c8;apply aa rfl;exact aj rfl rfl;apply aa rfl;exact bd rfl rfl rfl rfl rfl ab aQ a9 aJ a8;apply aa rfl;exact a5 rfl ab rfl rfl rfl aQ aQ;refine aa rfl (ai rfl rfl) (ar (an (ak (ah (aa rfl (aj rfl rfl) (aa rfl (aG rfl rfl rfl rfl) (ar (an ?_)))))))))
 refine ax rfl (fun h=> ?_) (fun h=> ?_)
 ·have h:¬bZ im c g < 0:=by unfold bZ;simp at h;omega
  have e:image im less c g=root less (bZ im c g).toNat:=if_neg h
  have hF:=rW im less im.length less.length (bZ im c g).toNat b rfl hd ae
  have hz:aC (bn im c) g=(((bZ im c g).toNat:Nat):Int):=(Int.toNat_of_nonneg (show 0≤aC (bn im c) g from Int.not_lt.1 h)).symm
  (refine ak (ah (aa rfl (aj rfl rfl) (aa rfl (aj rfl rfl) ?_)));apply aa rfl;(apply au 151;exact aw hF ab rfl rfl ⟨rfl,congrArg (fun z=>vv (I6 z)) hz,ag⟩ ⟨⟨_,rfl, .inl rfl⟩,⟨_,rfl, .inl rfl⟩,⟨_,rfl, .inl rfl⟩,ag⟩ rfl rfl);refine aa rfl (ai rfl rfl) (ar (an (aS (aO ?_)))))
  exact bu (.inl rfl) rfl (.tmp (congrArg (fun z=>some (vv (I6 z))) e.symm)) trivial trivial
 ·have h:bZ im c g < 0:=by unfold bZ;simp at h;omega
  have e:image im less c g= -1:=if_pos h
  (refine aE (an (ak (ah (aa rfl (ai rfl rfl) (ar (an (aS ?_))))))))
  exact bu (.inl rfl) rfl (.tmp (congrArg (fun z=>some (vv (I6 z))) e.symm)) trivial trivial
theorem wR (im:List (List Int)) (less:List Int) (m n c d g:Nat) (b:Bool) (hm:im.length=m) (hc:c < im.length) (hg:g < (bn im c).length) (hdl:d < im.length) (hg2:g < (bn im d).length):
  FC Tryz.prog 150 [(1010,om m n b),(1000,cT im),(1001,bG less)] [o1 (.ptr 1010 0),vv (I6 c),vv (I6 d),vv (I6 g)] [(1010,om m n b),(1000,cT (eh (eh im c g d) d g c)),(1001,bG less)] (.tup []) [(0,o1 (.ptr 1010 0))]:=by
 subst hm
 have hrr:(bn (eh im c g (d:Int)) d).length=(bn im d).length:=iG _ _ _ _ _
 have hg3:g < (bn (eh im c g (d:Int)) d).length:=by rw [iG];exact hg2
 have hd3:d < (eh im c g (d:Int)).length:=by rw [dB];exact hdl
 refine bj (nt:=28) Tryz.func150 rfl rfl (by simp) fun w0 ω0=> ?_
 (skip)
 refine cW (St.of [] [(1010,om im.length n b),(1000,cT (eh (eh im c g d) d g c)),(1001,bG less)] [(0,o1 (.ptr 1010 0))]) ?_ ?_
 ·apply nn 18 [] [15,17] [[], [0], [0,1], [0,1,2], [], [0,1,2,3,4], [0,1,2,3,4,5], [], [], [8], [8,9], [8,9,10], [], [8,9,10,11,12], [8,9,10,11,12,13], [], [], [], [0,1,2,3,4,5,6,7,8,9,10,11,12,13,14,16], [0,1,2,3,4,5,6,7,8,9,10,11,12,13,14,16,18], [0,1,2,3,4,5,6,7,8,9,10,11,12,13,14,15,16,17,18,19], [0,1,2,3,4,5,6,7,8,9,10,11,12,13,14,15,16,17,18,19,20]] [8,9,10,11,12,13,14,15,16,17,18,19,20,21,22,23,24,25] [] (by kernel_rfl) (by kernel_rfl) (by kernel_rfl)
  ·(apply aK rfl;(intro S1 hS;exact aj rfl (hS.op rfl));apply aK rfl;(intro S1 hS;exact bC rfl (hS.op rfl) (hS.ch _ _ rfl));apply aK rfl;(intro S1 hS;exact aI (d:=0) rfl (hS.op rfl) (hS.ch _ _ rfl) ab);apply aK rfl;(intro S1 hS;exact aZ rfl ab (hS.op rfl) (hS.ch _ _ rfl) rfl rfl);apply aK rfl;(intro S1 hS;exact aj rfl (hS.op rfl));apply aK rfl;(intro S1 hS;exact aR rfl (hS.op rfl) (hS.op rfl) (hS.ch _ _ rfl) rfl ab a9 aJ a8);apply aK rfl;(intro S1 hS;exact bF rfl ab (hS.op rfl) (hS.ch _ _ rfl) rfl aQ c8);apply aK rfl;(intro S1 hS;exact aj rfl (hS.op rfl));apply aK rfl;(intro S1 hS;exact aj rfl (hS.op rfl));apply aK rfl;(intro S1 hS;exact bC rfl (hS.op rfl) (hS.ch _ _ rfl));apply aK rfl;(intro S1 hS;exact aI (d:=0) rfl (hS.op rfl) (hS.ch _ _ rfl) ab);apply aK rfl;(intro S1 hS;exact aZ rfl ab (hS.op rfl) (hS.ch _ _ rfl) rfl rfl);apply aK rfl;(intro S1 hS;exact aj rfl (hS.op rfl));apply aK rfl;(intro S1 hS;exact aR rfl (hS.op rfl) (hS.op rfl) (hS.ch _ _ rfl) rfl ab a9 aJ a8);apply aK rfl;(intro S1 hS;exact bF rfl ab (hS.op rfl) (hS.ch _ _ rfl) rfl aQ c8);apply aK rfl;(intro S1 hS;exact aj rfl (hS.op rfl));apply aK rfl;(intro S1 hS;exact aj rfl (hS.op rfl));apply aK rfl;(intro S1 hS;exact aj rfl (hS.op rfl));exact ft.nil)
  ·rfl
  refine ⟨⟨?_, ?_⟩, ?_, ?_⟩
  ·((apply aF 18 rfl ab rfl rfl;exact bd rfl rfl rfl rfl rfl ab aQ a9 aJ a8);(apply aF 19 rfl ab rfl rfl;exact cz rfl rfl rfl rfl rfl aJ aJ ab);(apply aF 20 rfl ab rfl rfl;exact bd rfl rfl rfl rfl rfl ab aQ a9 aJ a8);(apply aF 21 rfl ab rfl rfl;exact cz rfl rfl rfl rfl rfl aJ aJ ab);(refine bh ab ?_;exact aV (Wk.of trivial ⟨rfl,rfl,rfl,ag⟩ ⟨rfl,ag⟩)))
  ·((apply ct 17 18 rfl ab rfl rfl rfl rfl;exact aj rfl rfl;exact bd rfl rfl rfl rfl rfl ab aQ a9 aJ a8;(focus ((apply aF 18 rfl ab rfl rfl;exact bd rfl rfl rfl rfl rfl ab aQ a9 aJ a8);(apply aF 19 rfl ab rfl rfl;exact cz rfl rfl rfl rfl rfl aJ aJ ab);(apply aF 20 rfl ab rfl rfl;exact bd rfl rfl rfl rfl rfl ab aQ a9 aJ a8);(apply aF 21 rfl ab rfl rfl;exact cz rfl rfl rfl rfl rfl aJ aJ ab);(refine bh ab ?_;exact aV (Wk.of trivial ⟨rfl,rfl,rfl,ag⟩ ⟨rfl,ag⟩))));(focus ((apply ct 17 19 rfl ab rfl rfl rfl rfl;exact aj rfl rfl;exact cz rfl rfl rfl rfl rfl aJ aJ ab;(focus ((apply aF 19 rfl ab rfl rfl;exact cz rfl rfl rfl rfl rfl aJ aJ ab);(apply aF 20 rfl ab rfl rfl;exact bd rfl rfl rfl rfl rfl ab aQ a9 aJ a8);(apply aF 21 rfl ab rfl rfl;exact cz rfl rfl rfl rfl rfl aJ aJ ab);(refine bh ab ?_;exact aV (Wk.of trivial ⟨rfl,rfl,rfl,ag⟩ ⟨rfl,ag⟩))));(focus ((apply aF 17 rfl ab rfl rfl;exact aj rfl rfl);(apply aF 20 rfl ab rfl rfl;exact bd rfl rfl rfl rfl rfl ab aQ a9 aJ a8);(apply aF 21 rfl ab rfl rfl;exact cz rfl rfl rfl rfl rfl aJ aJ ab);(refine bh ab ?_;exact aV (Wk.of trivial ⟨rfl,rfl,rfl,ag⟩ ⟨rfl,ag⟩)))))))))
  ·((apply ct 15 18 rfl ab rfl rfl rfl rfl;exact aj rfl rfl;exact bd rfl rfl rfl rfl rfl ab aQ a9 aJ a8;(focus ((apply aF 18 rfl ab rfl rfl;exact bd rfl rfl rfl rfl rfl ab aQ a9 aJ a8);(apply aF 19 rfl ab rfl rfl;exact cz rfl rfl rfl rfl rfl aJ aJ ab);(apply aF 20 rfl ab rfl rfl;exact bd rfl rfl rfl rfl rfl ab aQ a9 aJ a8);(apply aF 21 rfl ab rfl rfl;exact cz rfl rfl rfl rfl rfl aJ aJ ab);(refine bh ab ?_;exact aV (Wk.of trivial ⟨rfl,rfl,rfl,ag⟩ ⟨rfl,ag⟩))));(focus ((apply ct 15 19 rfl ab rfl rfl rfl rfl;exact aj rfl rfl;exact cz rfl rfl rfl rfl rfl aJ aJ ab;(focus ((apply aF 19 rfl ab rfl rfl;exact cz rfl rfl rfl rfl rfl aJ aJ ab);(apply aF 20 rfl ab rfl rfl;exact bd rfl rfl rfl rfl rfl ab aQ a9 aJ a8);(apply aF 21 rfl ab rfl rfl;exact cz rfl rfl rfl rfl rfl aJ aJ ab);(refine bh ab ?_;exact aV (Wk.of trivial ⟨rfl,rfl,rfl,ag⟩ ⟨rfl,ag⟩))));(focus ((apply aF 15 rfl ab rfl rfl;exact aj rfl rfl);(apply aF 20 rfl ab rfl rfl;exact bd rfl rfl rfl rfl rfl ab aQ a9 aJ a8);(apply aF 21 rfl ab rfl rfl;exact cz rfl rfl rfl rfl rfl aJ aJ ab);(refine bh ab ?_;exact aV (Wk.of trivial ⟨rfl,rfl,rfl,ag⟩ ⟨rfl,ag⟩)))))))))
  ·((apply lB 15 17 18 rfl ab rfl rfl rfl rfl rfl rfl;exact aj rfl rfl;exact aj rfl rfl;exact bd rfl rfl rfl rfl rfl ab aQ a9 aJ a8;(focus ((apply ct 17 18 rfl ab rfl rfl rfl rfl;exact aj rfl rfl;exact bd rfl rfl rfl rfl rfl ab aQ a9 aJ a8;(focus ((apply aF 18 rfl ab rfl rfl;exact bd rfl rfl rfl rfl rfl ab aQ a9 aJ a8);(apply aF 19 rfl ab rfl rfl;exact cz rfl rfl rfl rfl rfl aJ aJ ab);(apply aF 20 rfl ab rfl rfl;exact bd rfl rfl rfl rfl rfl ab aQ a9 aJ a8);(apply aF 21 rfl ab rfl rfl;exact cz rfl rfl rfl rfl rfl aJ aJ ab);(refine bh ab ?_;exact aV (Wk.of trivial ⟨rfl,rfl,rfl,ag⟩ ⟨rfl,ag⟩))));(focus ((apply ct 17 19 rfl ab rfl rfl rfl rfl;exact aj rfl rfl;exact cz rfl rfl rfl rfl rfl aJ aJ ab;(focus ((apply aF 19 rfl ab rfl rfl;exact cz rfl rfl rfl rfl rfl aJ aJ ab);(apply aF 20 rfl ab rfl rfl;exact bd rfl rfl rfl rfl rfl ab aQ a9 aJ a8);(apply aF 21 rfl ab rfl rfl;exact cz rfl rfl rfl rfl rfl aJ aJ ab);(refine bh ab ?_;exact aV (Wk.of trivial ⟨rfl,rfl,rfl,ag⟩ ⟨rfl,ag⟩))));(focus ((apply aF 17 rfl ab rfl rfl;exact aj rfl rfl);(apply aF 20 rfl ab rfl rfl;exact bd rfl rfl rfl rfl rfl ab aQ a9 aJ a8);(apply aF 21 rfl ab rfl rfl;exact cz rfl rfl rfl rfl rfl aJ aJ ab);(refine bh ab ?_;exact aV (Wk.of trivial ⟨rfl,rfl,rfl,ag⟩ ⟨rfl,ag⟩))))))))));(focus ((apply ct 15 18 rfl ab rfl rfl rfl rfl;exact aj rfl rfl;exact bd rfl rfl rfl rfl rfl ab aQ a9 aJ a8;(focus ((apply aF 18 rfl ab rfl rfl;exact bd rfl rfl rfl rfl rfl ab aQ a9 aJ a8);(apply aF 19 rfl ab rfl rfl;exact cz rfl rfl rfl rfl rfl aJ aJ ab);(apply aF 20 rfl ab rfl rfl;exact bd rfl rfl rfl rfl rfl ab aQ a9 aJ a8);(apply aF 21 rfl ab rfl rfl;exact cz rfl rfl rfl rfl rfl aJ aJ ab);(refine bh ab ?_;exact aV (Wk.of trivial ⟨rfl,rfl,rfl,ag⟩ ⟨rfl,ag⟩))));(focus ((apply ct 15 19 rfl ab rfl rfl rfl rfl;exact aj rfl rfl;exact cz rfl rfl rfl rfl rfl aJ aJ ab;(focus ((apply aF 19 rfl ab rfl rfl;exact cz rfl rfl rfl rfl rfl aJ aJ ab);(apply aF 20 rfl ab rfl rfl;exact bd rfl rfl rfl rfl rfl ab aQ a9 aJ a8);(apply aF 21 rfl ab rfl rfl;exact cz rfl rfl rfl rfl rfl aJ aJ ab);(refine bh ab ?_;exact aV (Wk.of trivial ⟨rfl,rfl,rfl,ag⟩ ⟨rfl,ag⟩))));(focus ((apply aF 15 rfl ab rfl rfl;exact aj rfl rfl);(apply aF 20 rfl ab rfl rfl;exact bd rfl rfl rfl rfl rfl ab aQ a9 aJ a8);(apply aF 21 rfl ab rfl rfl;exact cz rfl rfl rfl rfl rfl aJ aJ ab);(refine bh ab ?_;exact aV (Wk.of trivial ⟨rfl,rfl,rfl,ag⟩ ⟨rfl,ag⟩))))))))));(focus ((apply lB 15 17 19 rfl ab rfl rfl rfl rfl rfl rfl;exact aj rfl rfl;exact aj rfl rfl;exact cz rfl rfl rfl rfl rfl aJ aJ ab;(focus ((apply ct 17 19 rfl ab rfl rfl rfl rfl;exact aj rfl rfl;exact cz rfl rfl rfl rfl rfl aJ aJ ab;(focus ((apply aF 19 rfl ab rfl rfl;exact cz rfl rfl rfl rfl rfl aJ aJ ab);(apply aF 20 rfl ab rfl rfl;exact bd rfl rfl rfl rfl rfl ab aQ a9 aJ a8);(apply aF 21 rfl ab rfl rfl;exact cz rfl rfl rfl rfl rfl aJ aJ ab);(refine bh ab ?_;exact aV (Wk.of trivial ⟨rfl,rfl,rfl,ag⟩ ⟨rfl,ag⟩))));(focus ((apply aF 17 rfl ab rfl rfl;exact aj rfl rfl);(apply aF 20 rfl ab rfl rfl;exact bd rfl rfl rfl rfl rfl ab aQ a9 aJ a8);(apply aF 21 rfl ab rfl rfl;exact cz rfl rfl rfl rfl rfl aJ aJ ab);(refine bh ab ?_;exact aV (Wk.of trivial ⟨rfl,rfl,rfl,ag⟩ ⟨rfl,ag⟩)))))));(focus ((apply ct 15 19 rfl ab rfl rfl rfl rfl;exact aj rfl rfl;exact cz rfl rfl rfl rfl rfl aJ aJ ab;(focus ((apply aF 19 rfl ab rfl rfl;exact cz rfl rfl rfl rfl rfl aJ aJ ab);(apply aF 20 rfl ab rfl rfl;exact bd rfl rfl rfl rfl rfl ab aQ a9 aJ a8);(apply aF 21 rfl ab rfl rfl;exact cz rfl rfl rfl rfl rfl aJ aJ ab);(refine bh ab ?_;exact aV (Wk.of trivial ⟨rfl,rfl,rfl,ag⟩ ⟨rfl,ag⟩))));(focus ((apply aF 15 rfl ab rfl rfl;exact aj rfl rfl);(apply aF 20 rfl ab rfl rfl;exact bd rfl rfl rfl rfl rfl ab aQ a9 aJ a8);(apply aF 21 rfl ab rfl rfl;exact cz rfl rfl rfl rfl rfl aJ aJ ab);(refine bh ab ?_;exact aV (Wk.of trivial ⟨rfl,rfl,rfl,ag⟩ ⟨rfl,ag⟩)))))));(focus ((apply ct 15 17 rfl ab rfl rfl rfl rfl;exact aj rfl rfl;exact aj rfl rfl;(focus ((apply aF 17 rfl ab rfl rfl;exact aj rfl rfl);(apply aF 20 rfl ab rfl rfl;exact bd rfl rfl rfl rfl rfl ab aQ a9 aJ a8);(apply aF 21 rfl ab rfl rfl;exact cz rfl rfl rfl rfl rfl aJ aJ ab);(refine bh ab ?_;exact aV (Wk.of trivial ⟨rfl,rfl,rfl,ag⟩ ⟨rfl,ag⟩))));(focus ((apply aF 15 rfl ab rfl rfl;exact aj rfl rfl);(apply aF 20 rfl ab rfl rfl;exact bd rfl rfl rfl rfl rfl ab aQ a9 aJ a8);(apply aF 21 rfl ab rfl rfl;exact cz rfl rfl rfl rfl rfl aJ aJ ab);(refine bh ab ?_;exact aV (Wk.of trivial ⟨rfl,rfl,rfl,ag⟩ ⟨rfl,ag⟩))))))))))))
 ·exact iF (.inr rfl) rfl ⟨rfl,rfl,rfl,ag⟩ ⟨rfl,ag⟩
end Go.Proofs.YtekbhbcgoadciaaGreat
namespace Go.Proofs.YtekbhbcgoadciaaGreat
open Go.RowKit
section
variable {P:Program} {nt:Nat} {S S1 S2:St} {w0 w:World} {ω0:ml} {ω:bY} {η:Env} {a:Act} {Q:Exit→Act→World→Prop} {ops:Array Oper} {rest:List Oper}
variable {t:Nat} {ty:TypeId} {ps:String} {af:Array Edge} {gd:Option (Nat×Bool)} {x y:Operand} {av:AV} {o:Oper}
theorem C1 (x y:Nat):Nat.beq x y=Nat.beq y x:=by
 cases h:Nat.beq x y with
 | true=>rw [beq_true h];simp
 | false=>
  cases h2:Nat.beq y x with
  | false=>rfl
  | true=>rw [beq_true h2] at h;simp at h
theorem pc (x y:Nm) (c:Ch):jz [(x,c)] y=Nat.beq x y:=by
 unfold jz;simp only [lk]
 rw [C1 x y]
 cases Nat.beq y x<;>rfl
theorem wa (x:Nm) (c:Ch) (a:A1):a.bad (jz [(x,c)]) (jf [])=a.has x:=by
 cases a with
 | val v=>rfl
 | any=>rfl
 | sl y _ _=>exact pc x y c
 | ptr y _=>show (jz [(x,c)] y && !jf [] y)=_;rw [pc];simp [jf,A1.has]
 | esl y _ _ _=>exact pc x y c
 | eptr y _ _=>exact pc x y c
 | clo f xs=>show xs.any (fun p=>jz [(x,c)] p.1 && !jf [] p.1)=xs.any fun p=>Nat.beq x p.1;congr 1;funext p;rw [pc];simp [jf]
theorem xm (x:Nm) (c:Ch) (a:A2):a.bad (jz [(x,c)]) (jf [])=a.has x:=by
 cases a with
 | one a=>exact wa x c a
 | agg l=>show l.any _=l.any _;congr 1;funext a;exact wa x c a
theorem xQ (x:Nm) (c:Ch) (a:AV):a.bad (jz [(x,c)]) (jf [])=a.has x:=by
 cases a with
 | s a=>exact xm x c a
 | tup l=>show l.any _=l.any _;congr 1;funext a;exact xm x c a
theorem Cs (x:Nm) (c d:Ch):d.clean (jz [(x,c)]) (jf [])=d.forget x:=by
 obtain ⟨ow,E,k,d⟩:=d
 unfold Ch.clean Ch.forget eQ.clean eQ.forget
 cases d with
 | flat l=>
  have:(l.map fun a=>bif a.bad (jz [(x,c)]) (jf []) then A1.any else a)=l.map (A1.forget x):=List.map_congr_left fun a _=>by rw [wa];rfl
  simp only [this]
 | bR vs=>rfl
 | rows F vss hs=>rfl
 | mix cs=>rfl
theorem Cv {ins:List (Nm×Ch)} {t:Nat} {res:AV} {x:Nm} {c:Ch} (hro:(ins.all fun p=> !p.2.own)=true):Wk ((S.after ins [(x,c)] []).IV (some t) res) ((S.new x c).put t res):=by
 have hc:∀x,gM ins x=false:=fun x=>by
  unfold gM
  cases h:lk x ins with
  | none=>rfl
  | some c=>have:=List.all_eq_true.1 hro _ (lg h);simpa using this
 refine Wk.less (fun t' av h=> ?_) (fun y d h=> ?_) fun t' av h=> ?_
 ·rw [iW] at h
  show ((S.after ins [(x,c)] []).put t res).sl t'=some av
  rw [iW]
  by_cases e:t'=t
  ·rw [if_pos e] at h ⊢;exact h
  ·rw [if_neg e] at h ⊢
   obtain ⟨h1,h2⟩:=DJ h
   show ((S.sl t').bind fun av=>bif av.bad (jz [(x,c)]) (jf []) then none else some av)=some av
   rw [h1,Option.bind_some,xQ,h2];rfl
 ·have h':(S.new x c).ch y=some d:=h
  clear h
  rw [vy] at h'
  show (match lk y [(x,c)] with | some c=>some c | none=>bif gM ins y then none else (S.ch y).map (Ch.clean (jz [(x,c)]) (jf [])))=some d
  simp only [lk]
  by_cases e:y=x
  ·rw [if_pos e] at h';subst e;simpa using h'
  ·rw [if_neg e] at h'
   rw [dy e,cond_false,hc,cond_false]
   have:Ch.clean (jz [(x,c)]) (jf [])=Ch.forget x:=funext fun d=>Cs x c d
   rw [this];exact h'
 ·have h:(S.new x c).ph t'=some av:=h
  obtain ⟨h1,h2⟩:=Db h
  show ((S.ph t').bind fun av=>bif av.bad (jz [(x,c)]) (jf []) then none else some av)=some av
  rw [h1,Option.bind_some,xQ,h2];rfl
theorem bg {f:FuncId} {xs:Array Operand} {ts:Array TypeId} {ins:List (Nm×Ch)} {args args':List AV} {res:AV} {back:List (Nat×AV)} {x:Nm} {c:Ch}
  (hfc:FC P f ins args [(x,c)] res back) (hf:uQ P f=true) (ht:Nat.blt t nt=true) (hx':FY S xs.toList=some args') (hto:wL args' args) (hin:rN S ins) (hro:(ins.all fun p=> !p.2.own)=true) (hnr:(res.names.all (jz [(x,c)]))=true) (hno:([(x,c)].all fun p=>p.2.own && p.2.names.all (jz [(x,c)]))=true):
  cu P nt ⟨some t, .call { callee:= .value (.func f),args:=xs,argTypes:=ts },ty,ps,af,gd⟩ S ((S.new x c).put t res):=
 (dc (kp:= []) hfc hf (by simp [ht]) hx' hto hin trivial hnr hno).wk (Cv hro)
theorem A8 {x:Nm×Option Nat} {w':World} {lo E n c:Nat} {ao:Option Addr} {xs:List Value} (h:Own w' lo E ao n c xs) {ω':bY} (ho:∀g,bk ao=some g→ω' g=some x):dJ ω' w' x ⟨ao,c,1⟩ E xs.length fun j u=>xs[j]? =some u:=by
 have hl:=h.len
 rcases h.1.2 with ⟨h2,h3⟩ | ⟨g,cap,cur,hv,hg,hh,h4,h5,h6,h7⟩
 ·injection h2 with e1 e2 e3
  subst e1 e3
  exact .inl ⟨rfl,rfl,ae⟩
 ·injection hv with e1 e2 e3
  subst e1 e3
  refine .inr ⟨g,0,cur,rfl,ho g rfl,hh,⟨rfl,h6⟩,by show xs.length≤c * 1;omega,h5,fun j hj=> ?_⟩
  have h8:xs[j]? =some xs[j]:=List.getElem?_eq_getElem hj
  refine ⟨xs[j], ?_,h8⟩
  have h9:(cur.toList.take (n * 1))[j]? =some xs[j]:=by rw [h7];exact h8
  rw [List.getElem?_take] at h9
  split at h9
  ·rw [Nat.zero_add];simpa using h9
  ·cases h9
theorem pw {f:FuncId} {ins:List (Nm×Ch)} {args:List AV} {x E:Nat} {zs:List Int} (h:∀w η ω us,Mem η ω w (fun x=>lk x ins)→nB η args us→Calls P f us.toArray w fun e w'=>∃ao c,e= .returned (.slice ao zs.length c)∧Own w' w.heap.size E ao zs.length c (aL zs)∧Below w.heap.size w w'):
  FC P f ins args [(x,⟨true,E,1, .bR (aL zs)⟩)] (o1 (.sl x 0 zs.length)) []:=by
 intro w η ω us hm hd
 refine (h w η ω us hm hd).mono ?_
 rintro e w' ⟨ao,c,rfl,ho,hb⟩
 refine ⟨_, { h:=fun y=>if y=x then some ⟨ao,c,1⟩ else none,r:=η.r },fun b=>if bk ao=some b then some (x,none) else ω b,rfl,⟨⟨_,_,rfl⟩,fun hd' he=> ?_⟩,⟨fun y d hy=> ?_,fun y hy=> ?_⟩,⟨hb.os,hb.tape,hb.output,hb.size,fun b hlt hn=>⟨hb.block b hlt, ?_⟩⟩,fun t av ht=>(nomatch ht)⟩
 ·simp only [if_true,Option.some.injEq] at he
  subst he
  exact ⟨_,rfl,fun _=>rfl,fun h0=>absurd h0 ae⟩
 ·have hy:lk y [(x,(⟨true,E,1, .bR (aL zs)⟩:Ch))]=some d:=hy
  simp only [lk] at hy
  cases hb':Nat.beq y x with
  | false=>rw [hb'] at hy;simp at hy
  | true=>
   rw [hb'] at hy;simp at hy;subst hy
   obtain rfl:=beq_true hb'
   exact ⟨⟨ao,c,1⟩,if_pos rfl,rfl,A8 ho fun g hg=>if_pos hg⟩
 ·have hy:lk y [(x,(⟨true,E,1, .bR (aL zs)⟩:Ch))]=none:=hy
  have:y≠x:=fun e=>by subst e;simp [lk] at hy
  exact if_neg this
 ·show (if bk ao=some b then some (x,none) else ω b)=none
  rw [if_neg fun e=>by have:=(ho.lt b e).1;omega];exact hn
theorem pL {T E F z m:Nat} {x0:Operand} {vs:List Value} (ht:Nat.blt t nt=true) (hT:pN P T E 1=true) (hx:S.op x0=some (o1 (.sl z 0 m))) (hz:S.ch z=some ⟨true,F,1, .bR vs⟩) (hm:vs.length=m) (hzt:Nat.beq z t=false):
  cu P nt ⟨some t, .buildSlice T 1 #[(0,x0)],ty,ps,af,gd⟩ S (((S.rm z).new t ⟨true,E,1, .rows F [vs] []⟩).put t (o1 (.sl t 0 1))):=
 cu.of _ fun w0 ω0 η ω a w hs=>by
  have hne:z≠t:=fun e=>by rw [e] at hzt;simp at hzt
  subst hm
  obtain ⟨i,zz,k1,k2,k3,k4,k5,k6⟩:=ep hT
  have hd0:c6 η (.sl z 0 vs.length) (a.eval x0):=hs.iE hx
  have ho:(a.eval x0).oneCell'=true:=hd0.one fun v hv=>by cases hv
  obtain ⟨hz',z1,z2,z3⟩:=hs.chunk hz
  have z2:hz'.k=1:=z2
  have z3:dJ ω w (z,none) hz' F vs.length (cI η ω w true z (.bR vs)):=z3
  obtain ⟨az,hav,q1,_⟩:=hd0.2 hz' z1
  refine ⟨.slice (some ⟨w.heap.size,0,none⟩) 1 1,w.alloc (.cells #[a.eval x0] E), ?_, ?_⟩
  ·simp [execOp,Instr.buildSlice,run_underlying k1,sizeOf,typeInfo,k2,k3,zeroValue,k5,Instr.fill,newRow,kK ho,Au]
  ·have hSz:(S.rm z).ch z=none:=by simp [fG]
   have calm:Calm (S.rm z) ω w (bY.j0 (bY.new ω w.heap.size (t,none)) z t 0) (w.alloc (.cells #[a.eval x0] E)):=⟨rfl,rfl,rfl,by simp,fun b hb hl=>by
    have hnew:bY.new ω w.heap.size (t,none) b=ω b:=by simp [bY.new,Nat.ne_of_lt hb]
    refine ⟨Below.heap_alloc w _ b hb, ?_⟩
    have h1:ω b≠some (z,none):=by
     rcases hl with h0 | ⟨y,j,c,h0,h1⟩
     ·rw [h0];simp
     ·rw [h0]
      intro e
      simp at e;rw [e.1,hSz] at h1;cases h1
    simp only [bY.j0,hnew,if_neg h1]⟩
   have key:eA ((η.drop z).new t ⟨some ⟨w.heap.size,0,none⟩,1,1⟩ fun _=>hz') (bY.j0 (bY.new ω w.heap.size (t,none)) z t 0) (w.alloc (.cells #[a.eval x0] E)) t ⟨some ⟨w.heap.size,0,none⟩,1,1⟩ ⟨true,E,1, .rows F [vs] []⟩:=by
    have hself:bY.new ω w.heap.size (t,none) w.heap.size=some (t,none):=by simp [bY.new]
    refine ⟨rfl, .inr ⟨w.heap.size,0,_,rfl, ?_,heap_alloc_new w _,⟨rfl,rfl⟩,Nat.le_refl _,by simp [maxLen],fun j hj=> ?_⟩⟩
    ·unfold bY.j0
     rw [hself,if_neg (by simp;exact fun e=>hne e.symm)]
    ·have hj0:j=0:=by simp [eQ.len] at hj;omega
     subst hj0
     refine ⟨a.eval x0,by simp,ho,fun _ vs' hvs'=> ?_⟩
     simp at hvs';subst hvs'
     have hr:((η.drop z).new t ⟨some ⟨w.heap.size,0,none⟩,1,1⟩ fun _=>hz').r t 0=hz':=by simp [Env.new]
     rw [hr]
     refine ⟨by rw [hav,q1 rfl,Nat.sub_zero],z2,dJ.j0 z3 fun b hb hob=>⟨Below.heap_alloc w _ b hb, ?_⟩⟩
     have hnew:bY.new ω w.heap.size (t,none) b=ω b:=by simp [bY.new,Nat.ne_of_lt hb]
     simp only [bY.j0,hnew,hob,if_true]
   exact ⟨_,_,((hs.drop z).lay calm key).fU (by simpa using ht) eF⟩
theorem bX {n i z m:Nat} {E F s:Nat} {vss:List (List Value)} {vs:List Value} (hc:S.ch n=some ⟨true,E,1, .rows F vss []⟩) (hs0:S.sl s=some (o1 (.esl n i 0 m))) (hi:vss[i]? =some vs) (hm:vs.length=m) (hzn:Nat.beq z n=false):
  Wk S ((((S.pG n).set n ⟨true,E,1, .rows F vss [i]⟩).new z ⟨true,F,1, .bR vs⟩).put s (o1 (.sl z 0 m))):=by
 have hne:z≠n:=fun e=>by rw [e] at hzn;simp at hzn
 subst hm
 refine ⟨fun w0 ω0 nt a w ⟨η,ω,h⟩=> ?_⟩
 obtain ⟨u,hu,hdu⟩:=h.slots s _ hs0
 have hdu:c6 η (.esl n i 0 vs.length) u:=hdu
 obtain ⟨hd,e1,e2,e3⟩:=h.chunk hc
 have e3:dJ ω w (n,none) hd E vss.length (cI η ω w true n (.rows F vss [])):=e3
 obtain ⟨ao,rfl,q1,_⟩:=hdu.2 hd e1
 have hil:i < vss.length:=(List.getElem?_eq_some_iff.1 hi).1
 obtain ⟨b0,o0,u0,_,_,g3⟩:=lN.get (own:=true) e3 hil
 obtain ⟨r1,r2,r3⟩:=g3.2 (by simp) vs hi
 have r3:dJ ω w (n,some i) (η.r n i) F vs.length fun j u=>vs[j]? =some u:=r3
 let ω':bY:=fun b=>if ω b=some (n,some i) then some (z,none) else ω b
 have calm:Calm (S.rm n) ω w ω' w:=⟨rfl,rfl,rfl,Nat.le_refl _,fun b _ hl=>⟨rfl,by
  have h1:ω b≠some (n,some i):=by
   rcases hl with h0 | ⟨y,j,c,h0,h1⟩
   ·rw [h0];simp
   ·rw [h0];intro e;simp at e;rw [e.1,fG,if_pos rfl] at h1;cases h1
  exact if_neg h1⟩⟩
 have key:eA { η with r:=fun y j=>if y=n then η.r n j else η.r y j } ω' w n hd ⟨true,E,1, .rows F vss [i]⟩:=by
  refine ⟨e2, ?_⟩
  rcases e3 with h0 | ⟨b,o,cs,f1,f2,f3,f4,f5,f6,f7⟩
  ·exact .inl h0
  ·refine .inr ⟨b,o,cs,f1,(if_neg (by rw [f2];simp)).trans f2,f3,f4,f5,f6,fun j hj=> ?_⟩
   obtain ⟨u',hu',hk⟩:=f7 j hj
   refine ⟨u',hu',hk.1,fun hj' vs' hvs'=> ?_⟩
   obtain ⟨m1,m2,m3⟩:=hk.2 (by simp) vs' hvs'
   simp only [if_true]
   refine ⟨m1,m2,dJ.same (fun b2 _ ho=>⟨rfl, ?_⟩) (fun _ _ h=>h) m3⟩
   show (if ω b2=some (n,some i) then some (z,none) else ω b2)=_
   rw [if_neg (by rw [ho];simp;simpa using hj')];exact ho
 have h1:=h.rewrite (n:=n) (r:=η.r n) e1 calm key
 have h2:=h1.lay (x:=z) (c:=⟨true,F,1, .bR vs⟩) (hd:=η.r n i) (r:=fun _=>⟨none,0,1⟩) (Calm.refl _ _ _) ⟨r2,by
  show dJ ω' w (z,none) (η.r n i) F vs.length _
  rcases r3 with h0 | ⟨b,o,cs,f1,f2,f3,f4,f5,f6,f7⟩
  ·exact .inl h0
  ·exact .inr ⟨b,o,cs,f1,if_pos f2,f3,f4,f5,f6,f7⟩⟩
 refine ⟨_,ω', { h2 with slots:=fun t' av ht'=> ?_ }⟩
 rw [iW] at ht'
 by_cases e:t'=s
 ·subst e
  rw [if_pos rfl] at ht'
  obtain rfl:=Option.some.inj ht'
  refine ⟨_,hu,⟨_,_,rfl⟩,fun hd' he=> ?_⟩
  simp [Env.new] at he
  subst he
  exact ⟨_,rfl,fun _=>q1 rfl,fun h0=>absurd h0 ae⟩
 ·rw [if_neg e] at ht'
  exact h2.slots t' av ht'
theorem rp {T:TypeId} {n i len l:Nat} {c:Ch} {F:TypeId} {vss:List (List Value)} {vs:List Value} {hi:Operand} {ki:IntKind} {z:Int} (ht:Nat.blt t nt=true) (hx:S.op x=some (o1 (.esl n i 0 len))) (hc:S.ch n=some c) (hd0:c.d= .rows F vss []) (hr:vss[i]? =some vs) (hT:lM P T 1=true)
  (hhi:S.op hi=some (vv (.int ki z))) (hz:z=(l:Int)) (hlh:l≤len) (hl:len≤vs.length):cu P nt ⟨some t, .slice T x none (some hi) none,ty,ps,af,gd⟩ S (S.put t (o1 (.esl n i 0 l))):=
 cu.pure rfl ht fun _ _ η ω a w hs=>by
  obtain ⟨hd,h1,h2,h3⟩:=hs.chunk hc
  have hd1:c6 η (.esl n i 0 len) (a.eval x):=hs.iE hx
  obtain ⟨ao,e1,e2,e3⟩:=hd1.2 hd h1
  obtain ⟨e,inf,g1,g2,g3⟩:=nv hT
  rw [hd0] at h3
  have hil:i < vss.length:=(List.getElem?_eq_some_iff.1 hr).1
  obtain ⟨b0,o0,u0,_,_,k3⟩:=h3.get (j:=i) hil
  obtain ⟨r1,r2,r3⟩:=k3.2 (by simp) vs hr
  have hcap:=r3.cap
  rw [r2,Nat.mul_one] at hcap
  rw [Nat.sub_zero] at e1
  have hrun:=sj (P:=P) (lo:=none) (hi:=some hi) (l:=0) (h:=l) (len:=len) (m:=(η.r n i).c) (ao:=ao) g1 g2 hs rfl ⟨ki,z,hhi,hz⟩ (Nat.zero_le _) ae
  refine ⟨.slice (if (η.r n i).c=0 then ao else ao.map (·.add (0 * inf.size))) (l - 0) ((η.r n i).c - 0),by simp only [execOp,e1];simp only [Option.map_none,Option.map_some] at hrun ⊢;simp [hrun],⟨_,_,rfl⟩,fun hd' he=> ?_⟩
  rw [h1] at he;obtain rfl:=Option.some.inj he
  refine ⟨_,rfl,fun h0=> ?_,fun h0 hlt=>absurd h0 ae⟩
  rw [e2 rfl]
  split
  ·rfl
  ·cases (η.r n i).ao<;>simp [Addr.add]
end
end Go.Proofs.YtekbhbcgoadciaaGreat
namespace Go.Proofs.YtekbhbcgoadciaaGreat
open Go.RowKit
theorem sP (x n:Nat):FC Tryz.prog 125 [] [o1 (.sl x 0 n)] [] (vv (I6 n)) []:=by
 refine bj (nt:=5) Tryz.func125 rfl rfl (by simp) fun w0 ω0=> ?_
 (refine ak (ah (aa rfl (ai rfl rfl) (ar (an (ak (ah (aa rfl (aj rfl rfl) (aa rfl (bw rfl rfl rfl ab) ?_))))))));refine aa rfl (ai rfl rfl) (ar (an (aS ?_))))
 exact bu (.inl rfl) rfl (.tmp rfl) trivial trivial
theorem rE (x n:Nat):FC Tryz.prog 62 [] [o1 (.sl x 0 n)] [] (vv (I6 n)) []:=by
 refine bj (nt:=5) Tryz.func62 rfl rfl (by simp) fun w0 ω0=> ?_
 (refine ak (ah (aa rfl (ai rfl rfl) (ar (an (ak (ah (aa rfl (aj rfl rfl) (aa rfl (bw rfl rfl rfl ab) ?_))))))));refine aa rfl (ai rfl rfl) (ar (an (aS ?_))))
 exact bu (.inl rfl) rfl (.tmp rfl) trivial trivial
theorem gn (x i n:Nat):FC Tryz.prog 62 [] [o1 (.esl x i 0 n)] [] (vv (I6 n)) []:=by
 refine bj (nt:=5) Tryz.func62 rfl rfl (by simp) fun w0 ω0=> ?_
 (refine ak (ah (aa rfl (ai rfl rfl) (ar (an (ak (ah (aa rfl (aj rfl rfl) (aa rfl (bw rfl rfl rfl ab) ?_))))))));refine aa rfl (ai rfl rfl) (ar (an (aS ?_))))
 exact bu (.inl rfl) rfl (.tmp rfl) trivial trivial
theorem yA (z:Int):∀n,ez [z] n=List.replicate n z:=fun n=>by
 unfold ez
 induction n with
 | zero=>rfl
 | succ n ih=>simp [List.replicate_succ] at ih ⊢
theorem Gq {α:Type} (x:Nat) (c:α):lk x [(x,c)]=some c:=by simp [lk]
theorem iz (x y n:Nat) (z:Int) (hn:n≤1048576) (hn0:0 < n):
  FC Tryz.prog 118 [(x,⟨false,2,1, .bR (aL [z])⟩)] [o1 (.sl x 0 1),vv (I6 n)] [(y,⟨true,2,1, .bR (aL (List.replicate n z))⟩)] (o1 (.sl y 0 n)) []:=by
 have h:=pw (P:=Tryz.prog) (f:=118) (ins:= [(x,⟨false,2,1, .bR (aL [z])⟩)]) (args:= [o1 (.sl x 0 1),vv (I6 n)]) (x:=y) (E:=2) (zs:=List.replicate n z) fun w η ω us hm hd=>by
  obtain ⟨hl,ha⟩:=hd
  obtain ⟨u0,h0,d0⟩:=ha 0 _ rfl
  obtain ⟨u1,h1,d1⟩:=ha 1 _ rfl
  obtain ⟨ao,c,e0,hi⟩:=Fg (zs:= [z]) (E:=2) (own:=false) hm (Gq _ _) d0 (by simp)
  have d1:u1=I6 n:=d1
  subst e0 d1
  obtain rfl:us= [.slice ao 1 c,I6 n]:=by
   match us,hl,h0,h1 with
   | [p,q],_,h0,h1=>simp at h0 h1;rw [h0,h1]
  refine (nG ao 1 c n [z] w hi ae hn ae ae).mono ?_
  rintro e w' ⟨ao',c',rfl,ho,hb⟩
  rw [Nat.one_mul,yA] at ho
  rw [List.length_replicate]
  exact ⟨ao',c',by rw [Nat.one_mul],ho,hb⟩
 rw [List.length_replicate] at h
 exact h
end Go.Proofs.YtekbhbcgoadciaaGreat
