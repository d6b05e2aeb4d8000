/- The degrees of a component, the reference's: l12Either, l12Degrees, l12Affine. guards: -/
import Derived.Test.YtekbhbcgoadciaaGreatPart1
import Derived.Test.YtekbhbcgoadciaaGreatPart3
namespace Go.Proofs.YtekbhbcgoadciaaGreat
open Go.RowKit
theorem rev_eq (a b:List Int):(a.reverse == b)=(a == b.reverse):=by
 by_cases h:a.reverse=b
 ·subst h;simp
 ·have h2:a≠b.reverse:=fun e=>h (by rw [e,List.reverse_reverse])
  rw [beq_eq_false_iff_ne.2 h,beq_eq_false_iff_ne.2 h2]
set_option maxRecDepth 100000 in
set_option maxHeartbeats 1000000 in
theorem bw (zss:List (List Int)) (i m n:Nat) (labs list:List Int) (hi:i < zss.length) (hlb:cD zss i=labs) (hm:labs.length=m) (hn:list.length=n) (hm4:m≤1000000) (hn4:n≤1000000):
  FC Tryz.prog 142 [(1000,bu zss),(1001,cf list)] [o1 (.esl 1000 i 0 m),o1 (.sl 1001 0 n)] [] (vv (.bool (bA labs list))) []:=by
 have hlen:(cD zss i).length=m:=by rw [hlb];exact hm
 have hS:=tk zss i n 2 list hi hn (by omega) hn4
 have hT:=fR 10 zss i hi (by omega)
 rw [hlen,hlb] at hS hT
 have hS2:=(uZ labs.reverse list m n (by simpa using hm) hn hm4 hn4).nm [(1000,10),(1001,1001)] (by kernel_rfl)
 have hS2:FC Tryz.prog 170 [(10,cf labs.reverse),(1001,cf list)] [o1 (.sl 10 0 m),o1 (.sl 1001 0 n)] [] (vv (.bool (labs.reverse == list))) []:=hS2
 rw [rev_eq] at hS2
 refine a5 (nt:=14) Tryz.func142 rfl rfl (by simp) fun w0 ω0=> ?_
 (refine aj ?_;refine ag ?_;apply ae rfl;(exact ai rfl rfl);refine aq ?_;refine an ?_;refine aj ?_;refine ag ?_;apply ae rfl;(exact ah rfl rfl);apply ae rfl;(exact ah rfl rfl);apply ae rfl;(apply ar 170;exact au hS (by as_aux_lemma=>kernel_rfl) rfl rfl ⟨rfl,rfl,trivial⟩ ⟨⟨_,rfl, .inl rfl⟩,⟨_,rfl, .inl rfl⟩,trivial⟩ rfl rfl);apply ae rfl;(exact ah rfl rfl))
 refine bH 8 rfl (fun h1=> ?_) (fun h1=> ?_)
 ·have hv:bA labs list=true:=by unfold bA;rw [h1];rfl
  rw [hv]
  (apply aA rfl rfl rfl rfl rfl;apply aA rfl rfl rfl rfl rfl;apply aA rfl rfl rfl rfl rfl;apply aA rfl rfl rfl rfl rfl;apply ae rfl;(exact aY rfl rfl rfl);apply ae rfl;(exact ai rfl rfl);refine aq ?_;refine an ?_;refine aK ?_)
  exact aW (.inl rfl) rfl (.tmp rfl) trivial trivial
 ·have hv:bA labs list=(labs == list.reverse):=by unfold bA;rw [h1];rfl
  rw [hv]
  (apply aw rfl rfl rfl;(exact ah rfl rfl);apply aw rfl rfl rfl;(first | (apply ar 143;exact bl hT (by as_aux_lemma=>kernel_rfl) rfl rfl ⟨rfl,trivial⟩ ⟨⟨_,rfl, .inl rfl⟩,trivial⟩ rfl rfl rfl) | (apply ar 170;exact au hS2 (by as_aux_lemma=>kernel_rfl) rfl rfl ⟨rfl,rfl,trivial⟩ ⟨⟨_,rfl, .inr rfl⟩,⟨_,rfl, .inl rfl⟩,trivial⟩ rfl rfl));apply aw rfl rfl rfl;(exact ah rfl rfl);apply aw rfl rfl rfl;(first | (apply ar 143;exact bl hT (by as_aux_lemma=>kernel_rfl) rfl rfl ⟨rfl,trivial⟩ ⟨⟨_,rfl, .inl rfl⟩,trivial⟩ rfl rfl rfl) | (apply ar 170;exact au hS2 (by as_aux_lemma=>kernel_rfl) rfl rfl ⟨rfl,rfl,trivial⟩ ⟨⟨_,rfl, .inr rfl⟩,⟨_,rfl, .inl rfl⟩,trivial⟩ rfl rfl));apply ae rfl;(exact a7 rfl rfl rfl);apply ae rfl;(exact ai rfl rfl);refine aq ?_;refine an ?_;refine aK ?_)
  exact aW (.inl rfl) rfl (.tmp rfl) trivial trivial
set_option maxRecDepth 100000 in
set_option maxHeartbeats 2000000 in
theorem uJ (zss:List (List Int)) (i m:Nat) (labs:List Int) (hi:i < zss.length) (hlb:cD zss i=labs) (hm:labs.length=m) (hm4:m≤4) (h0:m=0):
  FC Tryz.prog 116 [(1000,bu zss)] [o1 (.esl 1000 i 0 m)] [(15,bI [2])] (o1 (.sl 15 0 1)) []:=by
 have hrow:(cM zss)[i]? =some (aH labs):=by rw [←hlb];exact bV hi
 have hilm:m≤(aH labs).length:=by rw [aO,hm];exact Nat.le_refl _
 refine a5 (nt:=97) Tryz.func116 rfl rfl (by simp) fun w0 ω0=> ?_
 have hw1:IntKind.i64.wrap ((m:Int) + 1)=(m:Int) + 1:=IntWalk.i64_in _ (by omega)
 (refine aj ?_;refine ag ?_;apply ae rfl;(exact ai rfl rfl);refine aq ?_;refine an ?_;refine aj ?_;refine ag ?_;apply ae rfl;(exact ah rfl rfl);apply ae rfl;(exact br rfl rfl rfl (by as_aux_lemma=>kernel_rfl));apply ae rfl;(exact aJ rfl rfl rfl hw1);apply ae rfl;(exact ai rfl rfl);refine aq ?_;refine an ?_;refine aj ?_;refine aD ?_;refine aj ?_;refine ag ?_;apply ae rfl;(exact ah rfl rfl);apply ae rfl;(exact aB rfl rfl rfl rfl);apply ae rfl;(exact ai rfl rfl);refine aq ?_;refine an ?_)
 refine ax rfl (fun _=> ?_) (fun e=> ?_)
 ·(refine aj ?_;refine ag ?_;apply ae rfl;(exact cJ (E:=2) rfl (by as_aux_lemma=>kernel_rfl) rfl);apply ae rfl;(exact ai rfl rfl);refine aq ?_;refine an ?_;refine aK ?_;refine bh ?_;refine aT ?_)
  exact aW (.inl rfl) rfl (.tmp rfl) ⟨rfl,trivial⟩ trivial
 ·exfalso;simp at e;omega
set_option maxRecDepth 100000 in
set_option maxHeartbeats 2000000 in
theorem ue (zss:List (List Int)) (i m:Nat) (labs:List Int) (hi:i < zss.length) (hlb:cD zss i=labs) (hm:labs.length=m) (hm4:m≤4) (h0:m=1) (hp:0 < aC labs 0):
  FC Tryz.prog 116 [(1000,bu zss)] [o1 (.esl 1000 i 0 m)] [(28,bI [2,aC labs 0])] (o1 (.sl 28 0 2)) []:=by
 have hrow:(cM zss)[i]? =some (aH labs):=by rw [←hlb];exact bV hi
 have hilm:m≤(aH labs).length:=by rw [aO,hm];exact Nat.le_refl _
 refine a5 (nt:=97) Tryz.func116 rfl rfl (by simp) fun w0 ω0=> ?_
 have hgl:(aH labs)[0]? =some (I6 (aC labs 0)):=aR (by omega)
 have hw1:IntKind.i64.wrap ((m:Int) + 1)=(m:Int) + 1:=IntWalk.i64_in _ (by omega)
 (refine aj ?_;refine ag ?_;apply ae rfl;(exact ai rfl rfl);refine aq ?_;refine an ?_;refine aj ?_;refine ag ?_;apply ae rfl;(exact ah rfl rfl);apply ae rfl;(exact br rfl rfl rfl (by as_aux_lemma=>kernel_rfl));apply ae rfl;(exact aJ rfl rfl rfl hw1);apply ae rfl;(exact ai rfl rfl);refine aq ?_;refine an ?_;refine aj ?_;refine aD ?_;refine aj ?_;refine ag ?_;apply ae rfl;(exact ah rfl rfl);apply ae rfl;(exact aB rfl rfl rfl rfl);apply ae rfl;(exact ai rfl rfl);refine aq ?_;refine an ?_)
 refine ax rfl (fun e=> ?_) (fun _=> ?_)
 ·exfalso;simp at e;omega
 (refine aj ?_;refine ag ?_;apply ae rfl;(exact ah rfl rfl);apply ae rfl;(exact aB rfl rfl rfl rfl);apply ae rfl;(exact ah rfl rfl))
 refine bH 19 rfl (fun _=> ?_) (fun e=> ?_)
 ·(apply aw rfl rfl rfl;(exact ah rfl rfl);apply aw rfl rfl rfl;(first | exact bj (j:=0) rfl rfl rfl rfl rfl (by as_aux_lemma=>kernel_rfl) hrow rfl (by omega) hilm | exact aQ rfl (by as_aux_lemma=>kernel_rfl) rfl rfl rfl hrow hgl);apply aw rfl rfl rfl;(first | exact bj (j:=0) rfl rfl rfl rfl rfl (by as_aux_lemma=>kernel_rfl) hrow rfl (by omega) hilm | exact aQ rfl (by as_aux_lemma=>kernel_rfl) rfl rfl rfl hrow hgl);apply aw rfl rfl rfl;(exact aB rfl rfl rfl rfl);apply ae rfl;(exact aY rfl rfl rfl);apply ae rfl;(exact ai rfl rfl);refine aq ?_;refine an ?_)
  refine ax rfl (fun _=> ?_) (fun e=> ?_)
  ·(refine aj ?_;refine ag ?_;apply ae rfl;(exact ah rfl rfl);apply ae rfl;(first | exact bj (j:=0) rfl rfl rfl rfl rfl (by as_aux_lemma=>kernel_rfl) hrow rfl (by omega) hilm | exact aQ rfl (by as_aux_lemma=>kernel_rfl) rfl rfl rfl hrow hgl);apply ae rfl;(first | exact bj (j:=0) rfl rfl rfl rfl rfl (by as_aux_lemma=>kernel_rfl) hrow rfl (by omega) hilm | exact aQ rfl (by as_aux_lemma=>kernel_rfl) rfl rfl rfl hrow hgl);apply ae rfl;(exact cr (E:=2) rfl (by as_aux_lemma=>kernel_rfl) rfl rfl);apply ae rfl;(exact ai rfl rfl);refine aq ?_;refine an ?_;refine aK ?_;refine bh ?_;refine aT ?_)
   exact aW (.inl rfl) rfl (.tmp rfl) ⟨rfl,trivial⟩ trivial
  ·exfalso;simp at e;omega
 ·exfalso;simp at e;omega
set_option maxRecDepth 100000 in
set_option maxHeartbeats 2000000 in
theorem ur (zss:List (List Int)) (i m:Nat) (labs:List Int) (hi:i < zss.length) (hlb:cD zss i=labs) (hm:labs.length=m) (hm4:m≤4) (h0:0 < m) (hq:¬(m=1∧0 < aC labs 0)) (e1:bA labs [3,5]=true):
  FC Tryz.prog 116 [(1000,bu zss)] [o1 (.esl 1000 i 0 m)] [(33,bI [2,6,10])] (o1 (.sl 33 0 3)) []:=by
 have hrow:(cM zss)[i]? =some (aH labs):=by rw [←hlb];exact bV hi
 have hilm:m≤(aH labs).length:=by rw [aO,hm];exact Nat.le_refl _
 have hE1:=(bw zss i m 2 labs [3,5] hi hlb hm rfl (by omega) (by omega)).nm [(1000,1000),(1001,31)] (by kernel_rfl)
 have hE1:FC Tryz.prog 142 [(1000,bu zss),(31,cf [3,5])] [o1 (.esl 1000 i 0 m),o1 (.sl 31 0 2)] [] (vv (.bool (bA labs [3,5]))) []:=hE1
 rw [e1] at hE1
 refine a5 (nt:=97) Tryz.func116 rfl rfl (by simp) fun w0 ω0=> ?_
 have hw1:IntKind.i64.wrap ((m:Int) + 1)=(m:Int) + 1:=IntWalk.i64_in _ (by omega)
 (refine aj ?_;refine ag ?_;apply ae rfl;(exact ai rfl rfl);refine aq ?_;refine an ?_;refine aj ?_;refine ag ?_;apply ae rfl;(exact ah rfl rfl);apply ae rfl;(exact br rfl rfl rfl (by as_aux_lemma=>kernel_rfl));apply ae rfl;(exact aJ rfl rfl rfl hw1);apply ae rfl;(exact ai rfl rfl);refine aq ?_;refine an ?_;refine aj ?_;refine aD ?_;refine aj ?_;refine ag ?_;apply ae rfl;(exact ah rfl rfl);apply ae rfl;(exact aB rfl rfl rfl rfl);apply ae rfl;(exact ai rfl rfl);refine aq ?_;refine an ?_)
 refine ax rfl (fun e=> ?_) (fun _=> ?_)
 ·exfalso;simp at e;omega
 (repeat (first | refine aj ?_ | refine an ?_ | refine aG ?_ | refine aD ?_ | refine aI ?_ | refine a6 ?_ | refine aP ?_ | refine bP rfl ?_ | refine aE ?_))
 refine cq (St.of [(0,o1 (.esl 1000 i 0 m)),(3,vv (I6 ((m:Int) + 1))),(16,vv (.bool false))] [(1000,bu zss)]) ?_ ?_
 ·refine ag ?_
  (apply ae rfl;(exact ah rfl rfl);apply ae rfl;(exact aB rfl rfl rfl rfl);apply ae rfl;(exact ah rfl rfl))
  refine bH 19 rfl (fun e1=> ?_) (fun e1=> ?_)
  ·have e1:m=1:=by simp at e1;omega
   have hg2:¬aC labs 0 > 0:=fun h=>hq ⟨e1,h⟩
   have hgl:(aH labs)[0]? =some (I6 (aC labs 0)):=aR (by omega)
   have hbf:df .i64 .gtr (aC labs 0) 0=some (.bool false):=by simp [df];omega
   (apply aw rfl rfl rfl;(exact ah rfl rfl);apply aw rfl rfl rfl;(first | exact aB rfl rfl rfl hbf | exact bj (j:=0) rfl rfl rfl rfl rfl (by as_aux_lemma=>kernel_rfl) hrow rfl (by omega) hilm | exact aQ rfl (by as_aux_lemma=>kernel_rfl) rfl rfl rfl hrow hgl);apply aw rfl rfl rfl;(first | exact aB rfl rfl rfl hbf | exact bj (j:=0) rfl rfl rfl rfl rfl (by as_aux_lemma=>kernel_rfl) hrow rfl (by omega) hilm | exact aQ rfl (by as_aux_lemma=>kernel_rfl) rfl rfl rfl hrow hgl);apply aw rfl rfl rfl;(first | exact aB rfl rfl rfl hbf | exact bj (j:=0) rfl rfl rfl rfl rfl (by as_aux_lemma=>kernel_rfl) hrow rfl (by omega) hilm | exact aQ rfl (by as_aux_lemma=>kernel_rfl) rfl rfl rfl hrow hgl);apply ae rfl;(exact aY rfl rfl rfl);apply ae rfl;(exact ai rfl rfl);refine aq ?_)
   exact aU (Wk.of ⟨rfl,rfl,rfl,trivial⟩ ⟨rfl,trivial⟩ trivial)
  ·(apply aA rfl rfl rfl rfl rfl;apply aA rfl rfl rfl rfl rfl;apply aA rfl rfl rfl rfl rfl;apply aA rfl rfl rfl rfl rfl;apply ae rfl;(exact a7 rfl rfl rfl);apply ae rfl;(exact ai rfl rfl);refine aq ?_)
   exact aU (Wk.of ⟨rfl,rfl,rfl,trivial⟩ ⟨rfl,trivial⟩ trivial)
 (refine an ?_)
 refine ax rfl (fun e=>by cases e) (fun _=> ?_)
 (refine aj ?_;refine ag ?_;apply ae rfl;(exact ah rfl rfl);apply ae rfl;(exact cr (E:=2) rfl (by as_aux_lemma=>kernel_rfl) rfl rfl);apply ae rfl;(first | (apply ar 142;exact au hE1 (by as_aux_lemma=>kernel_rfl) rfl rfl ⟨rfl,rfl,trivial⟩ ⟨⟨_,rfl, .inl rfl⟩,⟨_,rfl, .inr rfl⟩,trivial⟩ rfl rfl) | exact aM (E:=2) rfl (by as_aux_lemma=>kernel_rfl) rfl rfl rfl | exact aL (E:=2) rfl (by as_aux_lemma=>kernel_rfl) rfl rfl rfl rfl);apply ae rfl;(exact ai rfl rfl);refine aq ?_;refine an ?_)
 refine ax rfl (fun _=> ?_) (fun e=>by cases e)
 (refine aj ?_;refine ag ?_;apply ae rfl;(first | exact aM (E:=2) rfl (by as_aux_lemma=>kernel_rfl) rfl rfl rfl | exact aL (E:=2) rfl (by as_aux_lemma=>kernel_rfl) rfl rfl rfl rfl);apply ae rfl;(exact ai rfl rfl);refine aq ?_;refine an ?_;refine aK ?_;refine bh ?_;refine aT ?_)
 exact aW (.inl rfl) rfl (.tmp rfl) ⟨rfl,trivial⟩ trivial
set_option maxRecDepth 100000 in
set_option maxHeartbeats 2000000 in
theorem tT (zss:List (List Int)) (i m:Nat) (labs:List Int) (hi:i < zss.length) (hlb:cD zss i=labs) (hm:labs.length=m) (hm4:m≤4) (h0:0 < m) (hq:¬(m=1∧0 < aC labs 0)) (e1:bA labs [3,5]=false) (e2:bA labs [3,3,5]=true):
  FC Tryz.prog 116 [(1000,bu zss)] [o1 (.esl 1000 i 0 m)] [(38,bI [2,12,20,30])] (o1 (.sl 38 0 4)) []:=by
 have hrow:(cM zss)[i]? =some (aH labs):=by rw [←hlb];exact bV hi
 have hilm:m≤(aH labs).length:=by rw [aO,hm];exact Nat.le_refl _
 have hE1:=(bw zss i m 2 labs [3,5] hi hlb hm rfl (by omega) (by omega)).nm [(1000,1000),(1001,31)] (by kernel_rfl)
 have hE1:FC Tryz.prog 142 [(1000,bu zss),(31,cf [3,5])] [o1 (.esl 1000 i 0 m),o1 (.sl 31 0 2)] [] (vv (.bool (bA labs [3,5]))) []:=hE1
 rw [e1] at hE1
 have hE2:=(bw zss i m 3 labs [3,3,5] hi hlb hm rfl (by omega) (by omega)).nm [(1000,1000),(1001,36)] (by kernel_rfl)
 have hE2:FC Tryz.prog 142 [(1000,bu zss),(36,cf [3,3,5])] [o1 (.esl 1000 i 0 m),o1 (.sl 36 0 3)] [] (vv (.bool (bA labs [3,3,5]))) []:=hE2
 rw [e2] at hE2
 refine a5 (nt:=97) Tryz.func116 rfl rfl (by simp) fun w0 ω0=> ?_
 have hw1:IntKind.i64.wrap ((m:Int) + 1)=(m:Int) + 1:=IntWalk.i64_in _ (by omega)
 (refine aj ?_;refine ag ?_;apply ae rfl;(exact ai rfl rfl);refine aq ?_;refine an ?_;refine aj ?_;refine ag ?_;apply ae rfl;(exact ah rfl rfl);apply ae rfl;(exact br rfl rfl rfl (by as_aux_lemma=>kernel_rfl));apply ae rfl;(exact aJ rfl rfl rfl hw1);apply ae rfl;(exact ai rfl rfl);refine aq ?_;refine an ?_;refine aj ?_;refine aD ?_;refine aj ?_;refine ag ?_;apply ae rfl;(exact ah rfl rfl);apply ae rfl;(exact aB rfl rfl rfl rfl);apply ae rfl;(exact ai rfl rfl);refine aq ?_;refine an ?_)
 refine ax rfl (fun e=> ?_) (fun _=> ?_)
 ·exfalso;simp at e;omega
 (repeat (first | refine aj ?_ | refine an ?_ | refine aG ?_ | refine aD ?_ | refine aI ?_ | refine a6 ?_ | refine aP ?_ | refine bP rfl ?_ | refine aE ?_))
 refine cq (St.of [(0,o1 (.esl 1000 i 0 m)),(3,vv (I6 ((m:Int) + 1))),(16,vv (.bool false))] [(1000,bu zss)]) ?_ ?_
 ·refine ag ?_
  (apply ae rfl;(exact ah rfl rfl);apply ae rfl;(exact aB rfl rfl rfl rfl);apply ae rfl;(exact ah rfl rfl))
  refine bH 19 rfl (fun e1=> ?_) (fun e1=> ?_)
  ·have e1:m=1:=by simp at e1;omega
   have hg2:¬aC labs 0 > 0:=fun h=>hq ⟨e1,h⟩
   have hgl:(aH labs)[0]? =some (I6 (aC labs 0)):=aR (by omega)
   have hbf:df .i64 .gtr (aC labs 0) 0=some (.bool false):=by simp [df];omega
   (apply aw rfl rfl rfl;(exact ah rfl rfl);apply aw rfl rfl rfl;(first | exact aB rfl rfl rfl hbf | exact bj (j:=0) rfl rfl rfl rfl rfl (by as_aux_lemma=>kernel_rfl) hrow rfl (by omega) hilm | exact aQ rfl (by as_aux_lemma=>kernel_rfl) rfl rfl rfl hrow hgl);apply aw rfl rfl rfl;(first | exact aB rfl rfl rfl hbf | exact bj (j:=0) rfl rfl rfl rfl rfl (by as_aux_lemma=>kernel_rfl) hrow rfl (by omega) hilm | exact aQ rfl (by as_aux_lemma=>kernel_rfl) rfl rfl rfl hrow hgl);apply aw rfl rfl rfl;(first | exact aB rfl rfl rfl hbf | exact bj (j:=0) rfl rfl rfl rfl rfl (by as_aux_lemma=>kernel_rfl) hrow rfl (by omega) hilm | exact aQ rfl (by as_aux_lemma=>kernel_rfl) rfl rfl rfl hrow hgl);apply ae rfl;(exact aY rfl rfl rfl);apply ae rfl;(exact ai rfl rfl);refine aq ?_)
   exact aU (Wk.of ⟨rfl,rfl,rfl,trivial⟩ ⟨rfl,trivial⟩ trivial)
  ·(apply aA rfl rfl rfl rfl rfl;apply aA rfl rfl rfl rfl rfl;apply aA rfl rfl rfl rfl rfl;apply aA rfl rfl rfl rfl rfl;apply ae rfl;(exact a7 rfl rfl rfl);apply ae rfl;(exact ai rfl rfl);refine aq ?_)
   exact aU (Wk.of ⟨rfl,rfl,rfl,trivial⟩ ⟨rfl,trivial⟩ trivial)
 (refine an ?_)
 refine ax rfl (fun e=>by cases e) (fun _=> ?_)
 (refine aj ?_;refine ag ?_;apply ae rfl;(exact ah rfl rfl);apply ae rfl;(exact cr (E:=2) rfl (by as_aux_lemma=>kernel_rfl) rfl rfl);apply ae rfl;(first | (apply ar 142;exact au hE1 (by as_aux_lemma=>kernel_rfl) rfl rfl ⟨rfl,rfl,trivial⟩ ⟨⟨_,rfl, .inl rfl⟩,⟨_,rfl, .inr rfl⟩,trivial⟩ rfl rfl) | exact aM (E:=2) rfl (by as_aux_lemma=>kernel_rfl) rfl rfl rfl | exact aL (E:=2) rfl (by as_aux_lemma=>kernel_rfl) rfl rfl rfl rfl);apply ae rfl;(exact ai rfl rfl);refine aq ?_;refine an ?_)
 refine ax rfl (fun e=>by cases e) (fun _=> ?_)
 (refine aj ?_;refine ag ?_;apply ae rfl;(exact ah rfl rfl);apply ae rfl;(first | (apply ar 142;exact au hE2 (by as_aux_lemma=>kernel_rfl) rfl rfl ⟨rfl,rfl,trivial⟩ ⟨⟨_,rfl, .inl rfl⟩,⟨_,rfl, .inr rfl⟩,trivial⟩ rfl rfl) | exact aM (E:=2) rfl (by as_aux_lemma=>kernel_rfl) rfl rfl rfl | exact aL (E:=2) rfl (by as_aux_lemma=>kernel_rfl) rfl rfl rfl rfl);apply ae rfl;(first | (apply ar 142;exact au hE2 (by as_aux_lemma=>kernel_rfl) rfl rfl ⟨rfl,rfl,trivial⟩ ⟨⟨_,rfl, .inl rfl⟩,⟨_,rfl, .inr rfl⟩,trivial⟩ rfl rfl) | exact aM (E:=2) rfl (by as_aux_lemma=>kernel_rfl) rfl rfl rfl | exact aL (E:=2) rfl (by as_aux_lemma=>kernel_rfl) rfl rfl rfl rfl);apply ae rfl;(exact ai rfl rfl);refine aq ?_;refine an ?_)
 refine ax rfl (fun _=> ?_) (fun e=>by cases e)
 (refine aj ?_;refine ag ?_;apply ae rfl;(first | exact aM (E:=2) rfl (by as_aux_lemma=>kernel_rfl) rfl rfl rfl | exact aL (E:=2) rfl (by as_aux_lemma=>kernel_rfl) rfl rfl rfl rfl);apply ae rfl;(exact ai rfl rfl);refine aq ?_;refine an ?_;refine aK ?_;refine bh ?_;refine aT ?_)
 exact aW (.inl rfl) rfl (.tmp rfl) ⟨rfl,trivial⟩ trivial
set_option maxRecDepth 100000 in
set_option maxHeartbeats 2000000 in
theorem uj (zss:List (List Int)) (i m:Nat) (labs:List Int) (hi:i < zss.length) (hlb:cD zss i=labs) (hm:labs.length=m) (hm4:m≤4) (h0:0 < m) (hq:¬(m=1∧0 < aC labs 0)) (e1:bA labs [3,5]=false) (e2:bA labs [3,3,5]=false) (e3:bA labs [3,4,3]=true):
  FC Tryz.prog 116 [(1000,bu zss)] [o1 (.esl 1000 i 0 m)] [(43,bI [2,6,8,12])] (o1 (.sl 43 0 4)) []:=by
 have hrow:(cM zss)[i]? =some (aH labs):=by rw [←hlb];exact bV hi
 have hilm:m≤(aH labs).length:=by rw [aO,hm];exact Nat.le_refl _
 have hE1:=(bw zss i m 2 labs [3,5] hi hlb hm rfl (by omega) (by omega)).nm [(1000,1000),(1001,31)] (by kernel_rfl)
 have hE1:FC Tryz.prog 142 [(1000,bu zss),(31,cf [3,5])] [o1 (.esl 1000 i 0 m),o1 (.sl 31 0 2)] [] (vv (.bool (bA labs [3,5]))) []:=hE1
 rw [e1] at hE1
 have hE2:=(bw zss i m 3 labs [3,3,5] hi hlb hm rfl (by omega) (by omega)).nm [(1000,1000),(1001,36)] (by kernel_rfl)
 have hE2:FC Tryz.prog 142 [(1000,bu zss),(36,cf [3,3,5])] [o1 (.esl 1000 i 0 m),o1 (.sl 36 0 3)] [] (vv (.bool (bA labs [3,3,5]))) []:=hE2
 rw [e2] at hE2
 have hE3:=(bw zss i m 3 labs [3,4,3] hi hlb hm rfl (by omega) (by omega)).nm [(1000,1000),(1001,41)] (by kernel_rfl)
 have hE3:FC Tryz.prog 142 [(1000,bu zss),(41,cf [3,4,3])] [o1 (.esl 1000 i 0 m),o1 (.sl 41 0 3)] [] (vv (.bool (bA labs [3,4,3]))) []:=hE3
 rw [e3] at hE3
 refine a5 (nt:=97) Tryz.func116 rfl rfl (by simp) fun w0 ω0=> ?_
 have hw1:IntKind.i64.wrap ((m:Int) + 1)=(m:Int) + 1:=IntWalk.i64_in _ (by omega)
 (refine aj ?_;refine ag ?_;apply ae rfl;(exact ai rfl rfl);refine aq ?_;refine an ?_;refine aj ?_;refine ag ?_;apply ae rfl;(exact ah rfl rfl);apply ae rfl;(exact br rfl rfl rfl (by as_aux_lemma=>kernel_rfl));apply ae rfl;(exact aJ rfl rfl rfl hw1);apply ae rfl;(exact ai rfl rfl);refine aq ?_;refine an ?_;refine aj ?_;refine aD ?_;refine aj ?_;refine ag ?_;apply ae rfl;(exact ah rfl rfl);apply ae rfl;(exact aB rfl rfl rfl rfl);apply ae rfl;(exact ai rfl rfl);refine aq ?_;refine an ?_)
 refine ax rfl (fun e=> ?_) (fun _=> ?_)
 ·exfalso;simp at e;omega
 (repeat (first | refine aj ?_ | refine an ?_ | refine aG ?_ | refine aD ?_ | refine aI ?_ | refine a6 ?_ | refine aP ?_ | refine bP rfl ?_ | refine aE ?_))
 refine cq (St.of [(0,o1 (.esl 1000 i 0 m)),(3,vv (I6 ((m:Int) + 1))),(16,vv (.bool false))] [(1000,bu zss)]) ?_ ?_
 ·refine ag ?_
  (apply ae rfl;(exact ah rfl rfl);apply ae rfl;(exact aB rfl rfl rfl rfl);apply ae rfl;(exact ah rfl rfl))
  refine bH 19 rfl (fun e1=> ?_) (fun e1=> ?_)
  ·have e1:m=1:=by simp at e1;omega
   have hg2:¬aC labs 0 > 0:=fun h=>hq ⟨e1,h⟩
   have hgl:(aH labs)[0]? =some (I6 (aC labs 0)):=aR (by omega)
   have hbf:df .i64 .gtr (aC labs 0) 0=some (.bool false):=by simp [df];omega
   (apply aw rfl rfl rfl;(exact ah rfl rfl);apply aw rfl rfl rfl;(first | exact aB rfl rfl rfl hbf | exact bj (j:=0) rfl rfl rfl rfl rfl (by as_aux_lemma=>kernel_rfl) hrow rfl (by omega) hilm | exact aQ rfl (by as_aux_lemma=>kernel_rfl) rfl rfl rfl hrow hgl);apply aw rfl rfl rfl;(first | exact aB rfl rfl rfl hbf | exact bj (j:=0) rfl rfl rfl rfl rfl (by as_aux_lemma=>kernel_rfl) hrow rfl (by omega) hilm | exact aQ rfl (by as_aux_lemma=>kernel_rfl) rfl rfl rfl hrow hgl);apply aw rfl rfl rfl;(first | exact aB rfl rfl rfl hbf | exact bj (j:=0) rfl rfl rfl rfl rfl (by as_aux_lemma=>kernel_rfl) hrow rfl (by omega) hilm | exact aQ rfl (by as_aux_lemma=>kernel_rfl) rfl rfl rfl hrow hgl);apply ae rfl;(exact aY rfl rfl rfl);apply ae rfl;(exact ai rfl rfl);refine aq ?_)
   exact aU (Wk.of ⟨rfl,rfl,rfl,trivial⟩ ⟨rfl,trivial⟩ trivial)
  ·(apply aA rfl rfl rfl rfl rfl;apply aA rfl rfl rfl rfl rfl;apply aA rfl rfl rfl rfl rfl;apply aA rfl rfl rfl rfl rfl;apply ae rfl;(exact a7 rfl rfl rfl);apply ae rfl;(exact ai rfl rfl);refine aq ?_)
   exact aU (Wk.of ⟨rfl,rfl,rfl,trivial⟩ ⟨rfl,trivial⟩ trivial)
 (refine an ?_)
 refine ax rfl (fun e=>by cases e) (fun _=> ?_)
 (refine aj ?_;refine ag ?_;apply ae rfl;(exact ah rfl rfl);apply ae rfl;(exact cr (E:=2) rfl (by as_aux_lemma=>kernel_rfl) rfl rfl);apply ae rfl;(first | (apply ar 142;exact au hE1 (by as_aux_lemma=>kernel_rfl) rfl rfl ⟨rfl,rfl,trivial⟩ ⟨⟨_,rfl, .inl rfl⟩,⟨_,rfl, .inr rfl⟩,trivial⟩ rfl rfl) | exact aM (E:=2) rfl (by as_aux_lemma=>kernel_rfl) rfl rfl rfl | exact aL (E:=2) rfl (by as_aux_lemma=>kernel_rfl) rfl rfl rfl rfl);apply ae rfl;(exact ai rfl rfl);refine aq ?_;refine an ?_)
 refine ax rfl (fun e=>by cases e) (fun _=> ?_)
 (refine aj ?_;refine ag ?_;apply ae rfl;(exact ah rfl rfl);apply ae rfl;(first | (apply ar 142;exact au hE2 (by as_aux_lemma=>kernel_rfl) rfl rfl ⟨rfl,rfl,trivial⟩ ⟨⟨_,rfl, .inl rfl⟩,⟨_,rfl, .inr rfl⟩,trivial⟩ rfl rfl) | exact aM (E:=2) rfl (by as_aux_lemma=>kernel_rfl) rfl rfl rfl | exact aL (E:=2) rfl (by as_aux_lemma=>kernel_rfl) rfl rfl rfl rfl);apply ae rfl;(first | (apply ar 142;exact au hE2 (by as_aux_lemma=>kernel_rfl) rfl rfl ⟨rfl,rfl,trivial⟩ ⟨⟨_,rfl, .inl rfl⟩,⟨_,rfl, .inr rfl⟩,trivial⟩ rfl rfl) | exact aM (E:=2) rfl (by as_aux_lemma=>kernel_rfl) rfl rfl rfl | exact aL (E:=2) rfl (by as_aux_lemma=>kernel_rfl) rfl rfl rfl rfl);apply ae rfl;(exact ai rfl rfl);refine aq ?_;refine an ?_)
 refine ax rfl (fun e=>by cases e) (fun _=> ?_)
 (refine aj ?_;refine ag ?_;apply ae rfl;(exact ah rfl rfl);apply ae rfl;(first | (apply ar 142;exact au hE3 (by as_aux_lemma=>kernel_rfl) rfl rfl ⟨rfl,rfl,trivial⟩ ⟨⟨_,rfl, .inl rfl⟩,⟨_,rfl, .inr rfl⟩,trivial⟩ rfl rfl) | exact aM (E:=2) rfl (by as_aux_lemma=>kernel_rfl) rfl rfl rfl | exact aL (E:=2) rfl (by as_aux_lemma=>kernel_rfl) rfl rfl rfl rfl);apply ae rfl;(first | (apply ar 142;exact au hE3 (by as_aux_lemma=>kernel_rfl) rfl rfl ⟨rfl,rfl,trivial⟩ ⟨⟨_,rfl, .inl rfl⟩,⟨_,rfl, .inr rfl⟩,trivial⟩ rfl rfl) | exact aM (E:=2) rfl (by as_aux_lemma=>kernel_rfl) rfl rfl rfl | exact aL (E:=2) rfl (by as_aux_lemma=>kernel_rfl) rfl rfl rfl rfl);apply ae rfl;(exact ai rfl rfl);refine aq ?_;refine an ?_)
 refine ax rfl (fun _=> ?_) (fun e=>by cases e)
 (refine aj ?_;refine ag ?_;apply ae rfl;(first | exact aM (E:=2) rfl (by as_aux_lemma=>kernel_rfl) rfl rfl rfl | exact aL (E:=2) rfl (by as_aux_lemma=>kernel_rfl) rfl rfl rfl rfl);apply ae rfl;(exact ai rfl rfl);refine aq ?_;refine an ?_;refine aK ?_;refine bh ?_;refine aT ?_)
 exact aW (.inl rfl) rfl (.tmp rfl) ⟨rfl,trivial⟩ trivial
set_option maxRecDepth 100000 in
set_option maxHeartbeats 2000000 in
theorem tx (zss:List (List Int)) (i m:Nat) (labs:List Int) (hi:i < zss.length) (hlb:cD zss i=labs) (hm:labs.length=m) (hm4:m≤4) (h0:0 < m) (hq:¬(m=1∧0 < aC labs 0)) (e1:bA labs [3,5]=false) (e2:bA labs [3,3,5]=false) (e3:bA labs [3,4,3]=false) (h1:m=1):
  FC Tryz.prog 116 [(1000,bu zss)] [o1 (.esl 1000 i 0 m)] [] (vv (.slice none 0 0)) []:=by
 have hrow:(cM zss)[i]? =some (aH labs):=by rw [←hlb];exact bV hi
 have hilm:m≤(aH labs).length:=by rw [aO,hm];exact Nat.le_refl _
 have hE1:=(bw zss i m 2 labs [3,5] hi hlb hm rfl (by omega) (by omega)).nm [(1000,1000),(1001,31)] (by kernel_rfl)
 have hE1:FC Tryz.prog 142 [(1000,bu zss),(31,cf [3,5])] [o1 (.esl 1000 i 0 m),o1 (.sl 31 0 2)] [] (vv (.bool (bA labs [3,5]))) []:=hE1
 rw [e1] at hE1
 have hE2:=(bw zss i m 3 labs [3,3,5] hi hlb hm rfl (by omega) (by omega)).nm [(1000,1000),(1001,36)] (by kernel_rfl)
 have hE2:FC Tryz.prog 142 [(1000,bu zss),(36,cf [3,3,5])] [o1 (.esl 1000 i 0 m),o1 (.sl 36 0 3)] [] (vv (.bool (bA labs [3,3,5]))) []:=hE2
 rw [e2] at hE2
 have hE3:=(bw zss i m 3 labs [3,4,3] hi hlb hm rfl (by omega) (by omega)).nm [(1000,1000),(1001,41)] (by kernel_rfl)
 have hE3:FC Tryz.prog 142 [(1000,bu zss),(41,cf [3,4,3])] [o1 (.esl 1000 i 0 m),o1 (.sl 41 0 3)] [] (vv (.bool (bA labs [3,4,3]))) []:=hE3
 rw [e3] at hE3
 refine a5 (nt:=97) Tryz.func116 rfl rfl (by simp) fun w0 ω0=> ?_
 have hw1:IntKind.i64.wrap ((m:Int) + 1)=(m:Int) + 1:=IntWalk.i64_in _ (by omega)
 (refine aj ?_;refine ag ?_;apply ae rfl;(exact ai rfl rfl);refine aq ?_;refine an ?_;refine aj ?_;refine ag ?_;apply ae rfl;(exact ah rfl rfl);apply ae rfl;(exact br rfl rfl rfl (by as_aux_lemma=>kernel_rfl));apply ae rfl;(exact aJ rfl rfl rfl hw1);apply ae rfl;(exact ai rfl rfl);refine aq ?_;refine an ?_;refine aj ?_;refine aD ?_;refine aj ?_;refine ag ?_;apply ae rfl;(exact ah rfl rfl);apply ae rfl;(exact aB rfl rfl rfl rfl);apply ae rfl;(exact ai rfl rfl);refine aq ?_;refine an ?_)
 refine ax rfl (fun e=> ?_) (fun _=> ?_)
 ·exfalso;simp at e;omega
 (repeat (first | refine aj ?_ | refine an ?_ | refine aG ?_ | refine aD ?_ | refine aI ?_ | refine a6 ?_ | refine aP ?_ | refine bP rfl ?_ | refine aE ?_))
 refine cq (St.of [(0,o1 (.esl 1000 i 0 m)),(3,vv (I6 ((m:Int) + 1))),(16,vv (.bool false))] [(1000,bu zss)]) ?_ ?_
 ·refine ag ?_
  (apply ae rfl;(exact ah rfl rfl);apply ae rfl;(exact aB rfl rfl rfl rfl);apply ae rfl;(exact ah rfl rfl))
  refine bH 19 rfl (fun e1=> ?_) (fun e1=> ?_)
  ·have e1:m=1:=by simp at e1;omega
   have hg2:¬aC labs 0 > 0:=fun h=>hq ⟨e1,h⟩
   have hgl:(aH labs)[0]? =some (I6 (aC labs 0)):=aR (by omega)
   have hbf:df .i64 .gtr (aC labs 0) 0=some (.bool false):=by simp [df];omega
   (apply aw rfl rfl rfl;(exact ah rfl rfl);apply aw rfl rfl rfl;(first | exact aB rfl rfl rfl hbf | exact bj (j:=0) rfl rfl rfl rfl rfl (by as_aux_lemma=>kernel_rfl) hrow rfl (by omega) hilm | exact aQ rfl (by as_aux_lemma=>kernel_rfl) rfl rfl rfl hrow hgl);apply aw rfl rfl rfl;(first | exact aB rfl rfl rfl hbf | exact bj (j:=0) rfl rfl rfl rfl rfl (by as_aux_lemma=>kernel_rfl) hrow rfl (by omega) hilm | exact aQ rfl (by as_aux_lemma=>kernel_rfl) rfl rfl rfl hrow hgl);apply aw rfl rfl rfl;(first | exact aB rfl rfl rfl hbf | exact bj (j:=0) rfl rfl rfl rfl rfl (by as_aux_lemma=>kernel_rfl) hrow rfl (by omega) hilm | exact aQ rfl (by as_aux_lemma=>kernel_rfl) rfl rfl rfl hrow hgl);apply ae rfl;(exact aY rfl rfl rfl);apply ae rfl;(exact ai rfl rfl);refine aq ?_)
   exact aU (Wk.of ⟨rfl,rfl,rfl,trivial⟩ ⟨rfl,trivial⟩ trivial)
  ·(apply aA rfl rfl rfl rfl rfl;apply aA rfl rfl rfl rfl rfl;apply aA rfl rfl rfl rfl rfl;apply aA rfl rfl rfl rfl rfl;apply ae rfl;(exact a7 rfl rfl rfl);apply ae rfl;(exact ai rfl rfl);refine aq ?_)
   exact aU (Wk.of ⟨rfl,rfl,rfl,trivial⟩ ⟨rfl,trivial⟩ trivial)
 (refine an ?_)
 refine ax rfl (fun e=>by cases e) (fun _=> ?_)
 (refine aj ?_;refine ag ?_;apply ae rfl;(exact ah rfl rfl);apply ae rfl;(exact cr (E:=2) rfl (by as_aux_lemma=>kernel_rfl) rfl rfl);apply ae rfl;(first | (apply ar 142;exact au hE1 (by as_aux_lemma=>kernel_rfl) rfl rfl ⟨rfl,rfl,trivial⟩ ⟨⟨_,rfl, .inl rfl⟩,⟨_,rfl, .inr rfl⟩,trivial⟩ rfl rfl) | exact aM (E:=2) rfl (by as_aux_lemma=>kernel_rfl) rfl rfl rfl | exact aL (E:=2) rfl (by as_aux_lemma=>kernel_rfl) rfl rfl rfl rfl);apply ae rfl;(exact ai rfl rfl);refine aq ?_;refine an ?_)
 refine ax rfl (fun e=>by cases e) (fun _=> ?_)
 (refine aj ?_;refine ag ?_;apply ae rfl;(exact ah rfl rfl);apply ae rfl;(first | (apply ar 142;exact au hE2 (by as_aux_lemma=>kernel_rfl) rfl rfl ⟨rfl,rfl,trivial⟩ ⟨⟨_,rfl, .inl rfl⟩,⟨_,rfl, .inr rfl⟩,trivial⟩ rfl rfl) | exact aM (E:=2) rfl (by as_aux_lemma=>kernel_rfl) rfl rfl rfl | exact aL (E:=2) rfl (by as_aux_lemma=>kernel_rfl) rfl rfl rfl rfl);apply ae rfl;(first | (apply ar 142;exact au hE2 (by as_aux_lemma=>kernel_rfl) rfl rfl ⟨rfl,rfl,trivial⟩ ⟨⟨_,rfl, .inl rfl⟩,⟨_,rfl, .inr rfl⟩,trivial⟩ rfl rfl) | exact aM (E:=2) rfl (by as_aux_lemma=>kernel_rfl) rfl rfl rfl | exact aL (E:=2) rfl (by as_aux_lemma=>kernel_rfl) rfl rfl rfl rfl);apply ae rfl;(exact ai rfl rfl);refine aq ?_;refine an ?_)
 refine ax rfl (fun e=>by cases e) (fun _=> ?_)
 (refine aj ?_;refine ag ?_;apply ae rfl;(exact ah rfl rfl);apply ae rfl;(first | (apply ar 142;exact au hE3 (by as_aux_lemma=>kernel_rfl) rfl rfl ⟨rfl,rfl,trivial⟩ ⟨⟨_,rfl, .inl rfl⟩,⟨_,rfl, .inr rfl⟩,trivial⟩ rfl rfl) | exact aM (E:=2) rfl (by as_aux_lemma=>kernel_rfl) rfl rfl rfl | exact aL (E:=2) rfl (by as_aux_lemma=>kernel_rfl) rfl rfl rfl rfl);apply ae rfl;(first | (apply ar 142;exact au hE3 (by as_aux_lemma=>kernel_rfl) rfl rfl ⟨rfl,rfl,trivial⟩ ⟨⟨_,rfl, .inl rfl⟩,⟨_,rfl, .inr rfl⟩,trivial⟩ rfl rfl) | exact aM (E:=2) rfl (by as_aux_lemma=>kernel_rfl) rfl rfl rfl | exact aL (E:=2) rfl (by as_aux_lemma=>kernel_rfl) rfl rfl rfl rfl);apply ae rfl;(exact ai rfl rfl);refine aq ?_;refine an ?_)
 refine ax rfl (fun e=>by cases e) (fun _=> ?_)
 (refine aG ?_;refine aI ?_;refine an ?_;refine aj ?_;refine aj ?_;refine ag ?_;apply ae rfl;(exact ah rfl rfl);apply ae rfl;(exact aB rfl rfl rfl rfl);refine aq ?_;refine an ?_)
 refine ax rfl (fun _=> ?_) (fun e=> ?_)
 ·(refine aj ?_;refine ag ?_;apply ae rfl;(exact ai rfl rfl);refine aq ?_;refine an ?_;refine aK ?_;refine aT ?_)
  exact aW (.inl rfl) rfl (.tmp rfl) trivial trivial
 ·exfalso;simp at e;omega
theorem fE {labs:List Int} (h:ef labs=true) {k:Nat} (hk:k < labs.length - 1):aC (ends labs) k=3:=by
 unfold ef at h
 have:=(List.all_eq_true.1 h) k (List.mem_range.2 hk)
 simpa using this
theorem nj {labs:List Int} (h:∀q,q < labs.length - 1→aC (ends labs) q=3):ef labs=true:=by
 unfold ef
 rw [List.all_eq_true]
 intro q hq
 have:=h q (List.mem_range.1 hq)
 simpa using this
set_option maxRecDepth 100000 in
set_option maxHeartbeats 2000000 in
theorem qE (zss:List (List Int)) (i m:Nat) (labs:List Int) (hi:i < zss.length) (hlb:cD zss i=labs) (hm:labs.length=m) (hm4:m≤4) (h0:0 < m) (hq:¬(m=1∧0 < aC labs 0)) (e1:bA labs [3,5]=false) (e2:bA labs [3,3,5]=false) (e3:bA labs [3,4,3]=false) (h2:2≤m) (hA:aC labs 0=3) (ht:ef labs=false):
  FC Tryz.prog 116 [(1000,bu zss)] [o1 (.esl 1000 i 0 m)] [] (vv (.slice none 0 0)) []:=by
 have hrow:(cM zss)[i]? =some (aH labs):=by rw [←hlb];exact bV hi
 have hilm:m≤(aH labs).length:=by rw [aO,hm];exact Nat.le_refl _
 have hE1:=(bw zss i m 2 labs [3,5] hi hlb hm rfl (by omega) (by omega)).nm [(1000,1000),(1001,31)] (by kernel_rfl)
 have hE1:FC Tryz.prog 142 [(1000,bu zss),(31,cf [3,5])] [o1 (.esl 1000 i 0 m),o1 (.sl 31 0 2)] [] (vv (.bool (bA labs [3,5]))) []:=hE1
 rw [e1] at hE1
 have hE2:=(bw zss i m 3 labs [3,3,5] hi hlb hm rfl (by omega) (by omega)).nm [(1000,1000),(1001,36)] (by kernel_rfl)
 have hE2:FC Tryz.prog 142 [(1000,bu zss),(36,cf [3,3,5])] [o1 (.esl 1000 i 0 m),o1 (.sl 36 0 3)] [] (vv (.bool (bA labs [3,3,5]))) []:=hE2
 rw [e2] at hE2
 have hE3:=(bw zss i m 3 labs [3,4,3] hi hlb hm rfl (by omega) (by omega)).nm [(1000,1000),(1001,41)] (by kernel_rfl)
 have hE3:FC Tryz.prog 142 [(1000,bu zss),(41,cf [3,4,3])] [o1 (.esl 1000 i 0 m),o1 (.sl 41 0 3)] [] (vv (.bool (bA labs [3,4,3]))) []:=hE3
 rw [e3] at hE3
 refine a5 (nt:=97) Tryz.func116 rfl rfl (by simp) fun w0 ω0=> ?_
 have hgl:(aH labs)[0]? =some (I6 (aC labs 0)):=aR (by omega)
 have hE:ends labs=labs:=by unfold ends;rw [if_pos hA]
 have hw1:IntKind.i64.wrap ((m:Int) + 1)=(m:Int) + 1:=IntWalk.i64_in _ (by omega)
 (refine aj ?_;refine ag ?_;apply ae rfl;(exact ai rfl rfl);refine aq ?_;refine an ?_;refine aj ?_;refine ag ?_;apply ae rfl;(exact ah rfl rfl);apply ae rfl;(exact br rfl rfl rfl (by as_aux_lemma=>kernel_rfl));apply ae rfl;(exact aJ rfl rfl rfl hw1);apply ae rfl;(exact ai rfl rfl);refine aq ?_;refine an ?_;refine aj ?_;refine aD ?_;refine aj ?_;refine ag ?_;apply ae rfl;(exact ah rfl rfl);apply ae rfl;(exact aB rfl rfl rfl rfl);apply ae rfl;(exact ai rfl rfl);refine aq ?_;refine an ?_)
 refine ax rfl (fun e=> ?_) (fun _=> ?_)
 ·exfalso;simp at e;omega
 (repeat (first | refine aj ?_ | refine an ?_ | refine aG ?_ | refine aD ?_ | refine aI ?_ | refine a6 ?_ | refine aP ?_ | refine bP rfl ?_ | refine aE ?_))
 refine cq (St.of [(0,o1 (.esl 1000 i 0 m)),(3,vv (I6 ((m:Int) + 1))),(16,vv (.bool false))] [(1000,bu zss)]) ?_ ?_
 ·refine ag ?_
  (apply ae rfl;(exact ah rfl rfl);apply ae rfl;(exact aB rfl rfl rfl rfl);apply ae rfl;(exact ah rfl rfl))
  refine bH 19 rfl (fun e1=> ?_) (fun e1=> ?_)
  ·have e1:m=1:=by simp at e1;omega
   have hg2:¬aC labs 0 > 0:=fun h=>hq ⟨e1,h⟩
   have hgl:(aH labs)[0]? =some (I6 (aC labs 0)):=aR (by omega)
   have hbf:df .i64 .gtr (aC labs 0) 0=some (.bool false):=by simp [df];omega
   (apply aw rfl rfl rfl;(exact ah rfl rfl);apply aw rfl rfl rfl;(first | exact aB rfl rfl rfl hbf | exact bj (j:=0) rfl rfl rfl rfl rfl (by as_aux_lemma=>kernel_rfl) hrow rfl (by omega) hilm | exact aQ rfl (by as_aux_lemma=>kernel_rfl) rfl rfl rfl hrow hgl);apply aw rfl rfl rfl;(first | exact aB rfl rfl rfl hbf | exact bj (j:=0) rfl rfl rfl rfl rfl (by as_aux_lemma=>kernel_rfl) hrow rfl (by omega) hilm | exact aQ rfl (by as_aux_lemma=>kernel_rfl) rfl rfl rfl hrow hgl);apply aw rfl rfl rfl;(first | exact aB rfl rfl rfl hbf | exact bj (j:=0) rfl rfl rfl rfl rfl (by as_aux_lemma=>kernel_rfl) hrow rfl (by omega) hilm | exact aQ rfl (by as_aux_lemma=>kernel_rfl) rfl rfl rfl hrow hgl);apply ae rfl;(exact aY rfl rfl rfl);apply ae rfl;(exact ai rfl rfl);refine aq ?_)
   exact aU (Wk.of ⟨rfl,rfl,rfl,trivial⟩ ⟨rfl,trivial⟩ trivial)
  ·(apply aA rfl rfl rfl rfl rfl;apply aA rfl rfl rfl rfl rfl;apply aA rfl rfl rfl rfl rfl;apply aA rfl rfl rfl rfl rfl;apply ae rfl;(exact a7 rfl rfl rfl);apply ae rfl;(exact ai rfl rfl);refine aq ?_)
   exact aU (Wk.of ⟨rfl,rfl,rfl,trivial⟩ ⟨rfl,trivial⟩ trivial)
 (refine an ?_)
 refine ax rfl (fun e=>by cases e) (fun _=> ?_)
 (refine aj ?_;refine ag ?_;apply ae rfl;(exact ah rfl rfl);apply ae rfl;(exact cr (E:=2) rfl (by as_aux_lemma=>kernel_rfl) rfl rfl);apply ae rfl;(first | (apply ar 142;exact au hE1 (by as_aux_lemma=>kernel_rfl) rfl rfl ⟨rfl,rfl,trivial⟩ ⟨⟨_,rfl, .inl rfl⟩,⟨_,rfl, .inr rfl⟩,trivial⟩ rfl rfl) | exact aM (E:=2) rfl (by as_aux_lemma=>kernel_rfl) rfl rfl rfl | exact aL (E:=2) rfl (by as_aux_lemma=>kernel_rfl) rfl rfl rfl rfl);apply ae rfl;(exact ai rfl rfl);refine aq ?_;refine an ?_)
 refine ax rfl (fun e=>by cases e) (fun _=> ?_)
 (refine aj ?_;refine ag ?_;apply ae rfl;(exact ah rfl rfl);apply ae rfl;(first | (apply ar 142;exact au hE2 (by as_aux_lemma=>kernel_rfl) rfl rfl ⟨rfl,rfl,trivial⟩ ⟨⟨_,rfl, .inl rfl⟩,⟨_,rfl, .inr rfl⟩,trivial⟩ rfl rfl) | exact aM (E:=2) rfl (by as_aux_lemma=>kernel_rfl) rfl rfl rfl | exact aL (E:=2) rfl (by as_aux_lemma=>kernel_rfl) rfl rfl rfl rfl);apply ae rfl;(first | (apply ar 142;exact au hE2 (by as_aux_lemma=>kernel_rfl) rfl rfl ⟨rfl,rfl,trivial⟩ ⟨⟨_,rfl, .inl rfl⟩,⟨_,rfl, .inr rfl⟩,trivial⟩ rfl rfl) | exact aM (E:=2) rfl (by as_aux_lemma=>kernel_rfl) rfl rfl rfl | exact aL (E:=2) rfl (by as_aux_lemma=>kernel_rfl) rfl rfl rfl rfl);apply ae rfl;(exact ai rfl rfl);refine aq ?_;refine an ?_)
 refine ax rfl (fun e=>by cases e) (fun _=> ?_)
 (refine aj ?_;refine ag ?_;apply ae rfl;(exact ah rfl rfl);apply ae rfl;(first | (apply ar 142;exact au hE3 (by as_aux_lemma=>kernel_rfl) rfl rfl ⟨rfl,rfl,trivial⟩ ⟨⟨_,rfl, .inl rfl⟩,⟨_,rfl, .inr rfl⟩,trivial⟩ rfl rfl) | exact aM (E:=2) rfl (by as_aux_lemma=>kernel_rfl) rfl rfl rfl | exact aL (E:=2) rfl (by as_aux_lemma=>kernel_rfl) rfl rfl rfl rfl);apply ae rfl;(first | (apply ar 142;exact au hE3 (by as_aux_lemma=>kernel_rfl) rfl rfl ⟨rfl,rfl,trivial⟩ ⟨⟨_,rfl, .inl rfl⟩,⟨_,rfl, .inr rfl⟩,trivial⟩ rfl rfl) | exact aM (E:=2) rfl (by as_aux_lemma=>kernel_rfl) rfl rfl rfl | exact aL (E:=2) rfl (by as_aux_lemma=>kernel_rfl) rfl rfl rfl rfl);apply ae rfl;(exact ai rfl rfl);refine aq ?_;refine an ?_)
 refine ax rfl (fun e=>by cases e) (fun _=> ?_)
 (refine aG ?_;refine aI ?_;refine an ?_;refine aj ?_;refine aj ?_;refine ag ?_;apply ae rfl;(exact ah rfl rfl);apply ae rfl;(exact aB rfl rfl rfl rfl);refine aq ?_;refine an ?_)
 refine ax rfl (fun e=> ?_) (fun _=> ?_)
 ·exfalso;simp at e;omega
 (refine aG ?_;refine an ?_;refine aj ?_;refine ag ?_;apply ae rfl;(exact ah rfl rfl);apply ae rfl;(exact ai rfl rfl);refine aq ?_;refine an ?_;refine aj ?_;refine aj ?_;refine ag ?_;apply ae rfl;(exact ah rfl rfl);apply ae rfl;(first | exact bj (j:=0) rfl rfl rfl rfl rfl (by as_aux_lemma=>kernel_rfl) hrow rfl (by omega) hilm | exact aQ rfl (by as_aux_lemma=>kernel_rfl) rfl rfl rfl hrow hgl);apply ae rfl;(first | exact bj (j:=0) rfl rfl rfl rfl rfl (by as_aux_lemma=>kernel_rfl) hrow rfl (by omega) hilm | exact aQ rfl (by as_aux_lemma=>kernel_rfl) rfl rfl rfl hrow hgl);apply ae rfl;(exact aB rfl rfl rfl rfl);refine aq ?_;refine an ?_)
 refine ax rfl (fun e=> ?_) (fun e=> ?_)
 ·exfalso;simp at e;exact e hA
 (refine aG ?_;refine an ?_;refine aj ?_;refine aj ?_;refine ag ?_;apply ae rfl;(exact ai rfl rfl);refine aq ?_;refine an ?_;refine aD ?_)
 refine bx (fun k:Nat=>St.of [(3,vv (I6 ((m:Int) + 1))),(4,o1 (.esl 1000 i 0 m)),(5,vv (I6 k))] [(1000,bu zss)]) (fun k=>k≤m - 1∧∀q,q < k→aC (ends labs) q=3) (fun k=>m - k) 0 ⟨Nat.zero_le _,fun q h=>absurd h (by omega)⟩ (Wk.of ⟨rfl,rfl,rfl,trivial⟩ ⟨rfl,trivial⟩ trivial) ?_
 rintro k ⟨hk,hq3⟩
 have hkm:k < m:=by omega
 have hgk:(aH labs)[k]? =some (I6 (aC (ends labs) k)):=by rw [hE];exact aR (by first | omega | (rw [List.length_reverse];omega))
 have hwk:IntKind.i64.wrap ((k:Int) + 1)=(k:Int) + 1:=IntWalk.i64_in _ (by omega)
 (refine aj ?_;refine aj ?_;refine ag ?_;apply ae rfl;(exact ah rfl rfl);apply ae rfl;(exact aJ rfl rfl rfl hwk);apply ae rfl;(exact ah rfl rfl);apply ae rfl;(exact br rfl rfl rfl (by as_aux_lemma=>kernel_rfl));apply ae rfl;(exact aB rfl rfl rfl rfl);refine aq ?_;refine an ?_)
 refine bM rfl (fun hlt=> ?_) (fun hlt=> ?_)
 ·(refine aG ?_;refine an ?_;refine aj ?_;refine aD ?_;refine aj ?_;refine ag ?_;apply ae rfl;(exact ah rfl rfl);apply ae rfl;(exact ah rfl rfl);apply ae rfl;(first | exact bj (j:=k) rfl rfl rfl rfl rfl (by as_aux_lemma=>kernel_rfl) hrow rfl hkm hilm | exact aQ rfl (by as_aux_lemma=>kernel_rfl) rfl rfl rfl hrow hgk);apply ae rfl;(first | exact bj (j:=k) rfl rfl rfl rfl rfl (by as_aux_lemma=>kernel_rfl) hrow rfl hkm hilm | exact aQ rfl (by as_aux_lemma=>kernel_rfl) rfl rfl rfl hrow hgk);apply ae rfl;(exact aB rfl rfl rfl rfl);refine aq ?_;refine an ?_)
  refine ax rfl (fun e=> ?_) (fun e=> ?_)
  ·(refine aj ?_;refine ag ?_;apply ae rfl;(exact ai rfl rfl);refine aq ?_;refine an ?_;refine aK ?_;refine bh ?_;refine aT ?_;refine aT ?_;refine bh ?_;refine aT ?_)
   exact aW (.inl rfl) rfl (.tmp rfl) trivial trivial
  ·have e:aC (ends labs) k=3:=by simpa using e
   (refine aG ?_;refine aI ?_;refine an ?_;refine ag ?_;apply ae rfl;(exact ah rfl rfl);apply ae rfl;(exact aJ rfl rfl rfl hwk);apply ae rfl;(exact ai rfl rfl);refine aq ?_)
   exact aX (k + 1) ⟨by omega,fun q h=>by
    by_cases e':q=k
    ·subst e';exact e
    ·exact hq3 q (by omega)⟩ (by omega) (Wk.of ⟨rfl,rfl,rfl,trivial⟩ ⟨rfl,trivial⟩ trivial)
 ·exfalso
  rw [nj (fun q h=>hq3 q (by omega))] at ht
  cases ht
set_option maxRecDepth 100000 in
set_option maxHeartbeats 2000000 in
theorem qV (zss:List (List Int)) (i m:Nat) (labs:List Int) (hi:i < zss.length) (hlb:cD zss i=labs) (hm:labs.length=m) (hm4:m≤4) (h0:0 < m) (hq:¬(m=1∧0 < aC labs 0)) (e1:bA labs [3,5]=false) (e2:bA labs [3,3,5]=false) (e3:bA labs [3,4,3]=false) (h2:2≤m) (hA:aC labs 0=3) (ht:ef labs=true) (hlast:aC (ends labs) (labs.length - 1)=3):
  FC Tryz.prog 116 [(1000,bu zss)] [o1 (.esl 1000 i 0 m)] [(65,bI (eD (m + 1) 1))] (o1 (.sl 65 0 (m + 1))) []:=by
 have hrow:(cM zss)[i]? =some (aH labs):=by rw [←hlb];exact bV hi
 have hilm:m≤(aH labs).length:=by rw [aO,hm];exact Nat.le_refl _
 have hE1:=(bw zss i m 2 labs [3,5] hi hlb hm rfl (by omega) (by omega)).nm [(1000,1000),(1001,31)] (by kernel_rfl)
 have hE1:FC Tryz.prog 142 [(1000,bu zss),(31,cf [3,5])] [o1 (.esl 1000 i 0 m),o1 (.sl 31 0 2)] [] (vv (.bool (bA labs [3,5]))) []:=hE1
 rw [e1] at hE1
 have hE2:=(bw zss i m 3 labs [3,3,5] hi hlb hm rfl (by omega) (by omega)).nm [(1000,1000),(1001,36)] (by kernel_rfl)
 have hE2:FC Tryz.prog 142 [(1000,bu zss),(36,cf [3,3,5])] [o1 (.esl 1000 i 0 m),o1 (.sl 36 0 3)] [] (vv (.bool (bA labs [3,3,5]))) []:=hE2
 rw [e2] at hE2
 have hE3:=(bw zss i m 3 labs [3,4,3] hi hlb hm rfl (by omega) (by omega)).nm [(1000,1000),(1001,41)] (by kernel_rfl)
 have hE3:FC Tryz.prog 142 [(1000,bu zss),(41,cf [3,4,3])] [o1 (.esl 1000 i 0 m),o1 (.sl 41 0 3)] [] (vv (.bool (bA labs [3,4,3]))) []:=hE3
 rw [e3] at hE3
 refine a5 (nt:=97) Tryz.func116 rfl rfl (by simp) fun w0 ω0=> ?_
 have hgl:(aH labs)[0]? =some (I6 (aC labs 0)):=aR (by omega)
 have hE:ends labs=labs:=by unfold ends;rw [if_pos hA]
 have hw1:IntKind.i64.wrap ((m:Int) + 1)=(m:Int) + 1:=IntWalk.i64_in _ (by omega)
 (refine aj ?_;refine ag ?_;apply ae rfl;(exact ai rfl rfl);refine aq ?_;refine an ?_;refine aj ?_;refine ag ?_;apply ae rfl;(exact ah rfl rfl);apply ae rfl;(exact br rfl rfl rfl (by as_aux_lemma=>kernel_rfl));apply ae rfl;(exact aJ rfl rfl rfl hw1);apply ae rfl;(exact ai rfl rfl);refine aq ?_;refine an ?_;refine aj ?_;refine aD ?_;refine aj ?_;refine ag ?_;apply ae rfl;(exact ah rfl rfl);apply ae rfl;(exact aB rfl rfl rfl rfl);apply ae rfl;(exact ai rfl rfl);refine aq ?_;refine an ?_)
 refine ax rfl (fun e=> ?_) (fun _=> ?_)
 ·exfalso;simp at e;omega
 (repeat (first | refine aj ?_ | refine an ?_ | refine aG ?_ | refine aD ?_ | refine aI ?_ | refine a6 ?_ | refine aP ?_ | refine bP rfl ?_ | refine aE ?_))
 refine cq (St.of [(0,o1 (.esl 1000 i 0 m)),(3,vv (I6 ((m:Int) + 1))),(16,vv (.bool false))] [(1000,bu zss)]) ?_ ?_
 ·refine ag ?_
  (apply ae rfl;(exact ah rfl rfl);apply ae rfl;(exact aB rfl rfl rfl rfl);apply ae rfl;(exact ah rfl rfl))
  refine bH 19 rfl (fun e1=> ?_) (fun e1=> ?_)
  ·have e1:m=1:=by simp at e1;omega
   have hg2:¬aC labs 0 > 0:=fun h=>hq ⟨e1,h⟩
   have hgl:(aH labs)[0]? =some (I6 (aC labs 0)):=aR (by omega)
   have hbf:df .i64 .gtr (aC labs 0) 0=some (.bool false):=by simp [df];omega
   (apply aw rfl rfl rfl;(exact ah rfl rfl);apply aw rfl rfl rfl;(first | exact aB rfl rfl rfl hbf | exact bj (j:=0) rfl rfl rfl rfl rfl (by as_aux_lemma=>kernel_rfl) hrow rfl (by omega) hilm | exact aQ rfl (by as_aux_lemma=>kernel_rfl) rfl rfl rfl hrow hgl);apply aw rfl rfl rfl;(first | exact aB rfl rfl rfl hbf | exact bj (j:=0) rfl rfl rfl rfl rfl (by as_aux_lemma=>kernel_rfl) hrow rfl (by omega) hilm | exact aQ rfl (by as_aux_lemma=>kernel_rfl) rfl rfl rfl hrow hgl);apply aw rfl rfl rfl;(first | exact aB rfl rfl rfl hbf | exact bj (j:=0) rfl rfl rfl rfl rfl (by as_aux_lemma=>kernel_rfl) hrow rfl (by omega) hilm | exact aQ rfl (by as_aux_lemma=>kernel_rfl) rfl rfl rfl hrow hgl);apply ae rfl;(exact aY rfl rfl rfl);apply ae rfl;(exact ai rfl rfl);refine aq ?_)
   exact aU (Wk.of ⟨rfl,rfl,rfl,trivial⟩ ⟨rfl,trivial⟩ trivial)
  ·(apply aA rfl rfl rfl rfl rfl;apply aA rfl rfl rfl rfl rfl;apply aA rfl rfl rfl rfl rfl;apply aA rfl rfl rfl rfl rfl;apply ae rfl;(exact a7 rfl rfl rfl);apply ae rfl;(exact ai rfl rfl);refine aq ?_)
   exact aU (Wk.of ⟨rfl,rfl,rfl,trivial⟩ ⟨rfl,trivial⟩ trivial)
 (refine an ?_)
 refine ax rfl (fun e=>by cases e) (fun _=> ?_)
 (refine aj ?_;refine ag ?_;apply ae rfl;(exact ah rfl rfl);apply ae rfl;(exact cr (E:=2) rfl (by as_aux_lemma=>kernel_rfl) rfl rfl);apply ae rfl;(first | (apply ar 142;exact au hE1 (by as_aux_lemma=>kernel_rfl) rfl rfl ⟨rfl,rfl,trivial⟩ ⟨⟨_,rfl, .inl rfl⟩,⟨_,rfl, .inr rfl⟩,trivial⟩ rfl rfl) | exact aM (E:=2) rfl (by as_aux_lemma=>kernel_rfl) rfl rfl rfl | exact aL (E:=2) rfl (by as_aux_lemma=>kernel_rfl) rfl rfl rfl rfl);apply ae rfl;(exact ai rfl rfl);refine aq ?_;refine an ?_)
 refine ax rfl (fun e=>by cases e) (fun _=> ?_)
 (refine aj ?_;refine ag ?_;apply ae rfl;(exact ah rfl rfl);apply ae rfl;(first | (apply ar 142;exact au hE2 (by as_aux_lemma=>kernel_rfl) rfl rfl ⟨rfl,rfl,trivial⟩ ⟨⟨_,rfl, .inl rfl⟩,⟨_,rfl, .inr rfl⟩,trivial⟩ rfl rfl) | exact aM (E:=2) rfl (by as_aux_lemma=>kernel_rfl) rfl rfl rfl | exact aL (E:=2) rfl (by as_aux_lemma=>kernel_rfl) rfl rfl rfl rfl);apply ae rfl;(first | (apply ar 142;exact au hE2 (by as_aux_lemma=>kernel_rfl) rfl rfl ⟨rfl,rfl,trivial⟩ ⟨⟨_,rfl, .inl rfl⟩,⟨_,rfl, .inr rfl⟩,trivial⟩ rfl rfl) | exact aM (E:=2) rfl (by as_aux_lemma=>kernel_rfl) rfl rfl rfl | exact aL (E:=2) rfl (by as_aux_lemma=>kernel_rfl) rfl rfl rfl rfl);apply ae rfl;(exact ai rfl rfl);refine aq ?_;refine an ?_)
 refine ax rfl (fun e=>by cases e) (fun _=> ?_)
 (refine aj ?_;refine ag ?_;apply ae rfl;(exact ah rfl rfl);apply ae rfl;(first | (apply ar 142;exact au hE3 (by as_aux_lemma=>kernel_rfl) rfl rfl ⟨rfl,rfl,trivial⟩ ⟨⟨_,rfl, .inl rfl⟩,⟨_,rfl, .inr rfl⟩,trivial⟩ rfl rfl) | exact aM (E:=2) rfl (by as_aux_lemma=>kernel_rfl) rfl rfl rfl | exact aL (E:=2) rfl (by as_aux_lemma=>kernel_rfl) rfl rfl rfl rfl);apply ae rfl;(first | (apply ar 142;exact au hE3 (by as_aux_lemma=>kernel_rfl) rfl rfl ⟨rfl,rfl,trivial⟩ ⟨⟨_,rfl, .inl rfl⟩,⟨_,rfl, .inr rfl⟩,trivial⟩ rfl rfl) | exact aM (E:=2) rfl (by as_aux_lemma=>kernel_rfl) rfl rfl rfl | exact aL (E:=2) rfl (by as_aux_lemma=>kernel_rfl) rfl rfl rfl rfl);apply ae rfl;(exact ai rfl rfl);refine aq ?_;refine an ?_)
 refine ax rfl (fun e=>by cases e) (fun _=> ?_)
 (refine aG ?_;refine aI ?_;refine an ?_;refine aj ?_;refine aj ?_;refine ag ?_;apply ae rfl;(exact ah rfl rfl);apply ae rfl;(exact aB rfl rfl rfl rfl);refine aq ?_;refine an ?_)
 refine ax rfl (fun e=> ?_) (fun _=> ?_)
 ·exfalso;simp at e;omega
 (refine aG ?_;refine an ?_;refine aj ?_;refine ag ?_;apply ae rfl;(exact ah rfl rfl);apply ae rfl;(exact ai rfl rfl);refine aq ?_;refine an ?_;refine aj ?_;refine aj ?_;refine ag ?_;apply ae rfl;(exact ah rfl rfl);apply ae rfl;(first | exact bj (j:=0) rfl rfl rfl rfl rfl (by as_aux_lemma=>kernel_rfl) hrow rfl (by omega) hilm | exact aQ rfl (by as_aux_lemma=>kernel_rfl) rfl rfl rfl hrow hgl);apply ae rfl;(first | exact bj (j:=0) rfl rfl rfl rfl rfl (by as_aux_lemma=>kernel_rfl) hrow rfl (by omega) hilm | exact aQ rfl (by as_aux_lemma=>kernel_rfl) rfl rfl rfl hrow hgl);apply ae rfl;(exact aB rfl rfl rfl rfl);refine aq ?_;refine an ?_)
 refine ax rfl (fun e=> ?_) (fun e=> ?_)
 ·exfalso;simp at e;exact e hA
 (refine aG ?_;refine an ?_;refine aj ?_;refine aj ?_;refine ag ?_;apply ae rfl;(exact ai rfl rfl);refine aq ?_;refine an ?_;refine aD ?_)
 refine bx (fun k:Nat=>St.of [(3,vv (I6 ((m:Int) + 1))),(4,o1 (.esl 1000 i 0 m)),(5,vv (I6 k))] [(1000,bu zss)]) (fun k=>k≤m - 1∧∀q,q < k→aC (ends labs) q=3) (fun k=>m - k) 0 ⟨Nat.zero_le _,fun q h=>absurd h (by omega)⟩ (Wk.of ⟨rfl,rfl,rfl,trivial⟩ ⟨rfl,trivial⟩ trivial) ?_
 rintro k ⟨hk,hq3⟩
 have hkm:k < m:=by omega
 have hgk:(aH labs)[k]? =some (I6 (aC (ends labs) k)):=by rw [hE];exact aR (by first | omega | (rw [List.length_reverse];omega))
 have hwk:IntKind.i64.wrap ((k:Int) + 1)=(k:Int) + 1:=IntWalk.i64_in _ (by omega)
 (refine aj ?_;refine aj ?_;refine ag ?_;apply ae rfl;(exact ah rfl rfl);apply ae rfl;(exact aJ rfl rfl rfl hwk);apply ae rfl;(exact ah rfl rfl);apply ae rfl;(exact br rfl rfl rfl (by as_aux_lemma=>kernel_rfl));apply ae rfl;(exact aB rfl rfl rfl rfl);refine aq ?_;refine an ?_)
 refine bM rfl (fun hlt=> ?_) (fun hlt=> ?_)
 ·(refine aG ?_;refine an ?_;refine aj ?_;refine aD ?_;refine aj ?_;refine ag ?_;apply ae rfl;(exact ah rfl rfl);apply ae rfl;(exact ah rfl rfl);apply ae rfl;(first | exact bj (j:=k) rfl rfl rfl rfl rfl (by as_aux_lemma=>kernel_rfl) hrow rfl hkm hilm | exact aQ rfl (by as_aux_lemma=>kernel_rfl) rfl rfl rfl hrow hgk);apply ae rfl;(first | exact bj (j:=k) rfl rfl rfl rfl rfl (by as_aux_lemma=>kernel_rfl) hrow rfl hkm hilm | exact aQ rfl (by as_aux_lemma=>kernel_rfl) rfl rfl rfl hrow hgk);apply ae rfl;(exact aB rfl rfl rfl rfl);refine aq ?_;refine an ?_)
  refine ax rfl (fun e=> ?_) (fun e=> ?_)
  ·exfalso
   have:=fE ht (k:=k) (by omega)
   simp at e
   exact e this
  ·have e:aC (ends labs) k=3:=by simpa using e
   (refine aG ?_;refine aI ?_;refine an ?_;refine ag ?_;apply ae rfl;(exact ah rfl rfl);apply ae rfl;(exact aJ rfl rfl rfl hwk);apply ae rfl;(exact ai rfl rfl);refine aq ?_)
   exact aX (k + 1) ⟨by omega,fun q h=>by
    by_cases e':q=k
    ·subst e';exact e
    ·exact hq3 q (by omega)⟩ (by omega) (Wk.of ⟨rfl,rfl,rfl,trivial⟩ ⟨rfl,trivial⟩ trivial)
 ·have hgm:(aH labs)[m - 1]? =some (I6 (aC (ends labs) (m - 1))):=by rw [hE];exact aR (by first | omega | (rw [List.length_reverse];omega))
  have hm1:(m:Int) - 1=((m - 1:Nat):Int):=by omega
  have hws:IntKind.i64.wrap ((m:Int) - 1)=(m:Int) - 1:=IntWalk.i64_in _ (by omega)
  rw [hm] at hlast
  (refine a6 ?_;refine aE ?_;refine aE ?_;refine aP ?_;refine an ?_;refine aj ?_;refine ag ?_;apply ae rfl;(exact dr (E:=2) (k:=1) rfl (by as_aux_lemma=>kernel_rfl));apply ae rfl;(exact ai rfl rfl);refine aq ?_;refine an ?_;refine aj ?_;refine aj ?_;refine ag ?_;apply ae rfl;(exact ah rfl rfl);apply ae rfl;(exact ah rfl rfl);apply ae rfl;(exact br rfl rfl rfl (by as_aux_lemma=>kernel_rfl));apply ae rfl;(first | exact bf rfl rfl rfl hws | exact bj (j:=m - 1) rfl rfl rfl rfl rfl (by as_aux_lemma=>kernel_rfl) hrow hm1 (by omega) hilm | exact aQ rfl (by as_aux_lemma=>kernel_rfl) rfl rfl rfl hrow hgm);apply ae rfl;(first | exact bf rfl rfl rfl hws | exact bj (j:=m - 1) rfl rfl rfl rfl rfl (by as_aux_lemma=>kernel_rfl) hrow hm1 (by omega) hilm | exact aQ rfl (by as_aux_lemma=>kernel_rfl) rfl rfl rfl hrow hgm);apply ae rfl;(first | exact bf rfl rfl rfl hws | exact bj (j:=m - 1) rfl rfl rfl rfl rfl (by as_aux_lemma=>kernel_rfl) hrow hm1 (by omega) hilm | exact aQ rfl (by as_aux_lemma=>kernel_rfl) rfl rfl rfl hrow hgm);refine aq ?_;refine an ?_;refine aD ?_;refine aj ?_;refine ag ?_;apply ae rfl;(exact aB rfl rfl rfl rfl);apply ae rfl;(exact ai rfl rfl);refine aq ?_;refine an ?_)
  refine ax rfl (fun _=> ?_) (fun e=> ?_)
  rotate_left
  ·exfalso;simp at e;exact e hlast
  (refine aj ?_;refine ag ?_;apply ae rfl;(exact ai rfl rfl);refine aq ?_;refine an ?_;refine aD ?_)
  have hw2:IntKind.i64.wrap ((m:Int) + 1 + 1)=(m:Int) + 1 + 1:=IntWalk.i64_in _ (by omega)
  refine bx (fun k:Nat=>St.of [(3,vv (I6 ((m:Int) + 1))),(6,o1 (.sl 65 0 k)),(7,vv (I6 (2 + 1 * (k:Int))))] [(65,bI (eD k 1))]) (fun k=>k≤m + 1) (fun k=>m + 1 - k) 0 (Nat.zero_le _) (Wk.of ⟨rfl,rfl,rfl,trivial⟩ ⟨rfl,trivial⟩ trivial) ?_
  rintro k hk
  have hwa:IntKind.i64.wrap (2 + 1 * (k:Int) + 1)=2 + 1 * ((k + 1:Nat):Int):=(IntWalk.i64_in _ (by omega)).trans (by omega)
  (refine aj ?_;refine aj ?_;refine ag ?_;apply ae rfl;(exact ah rfl rfl);apply ae rfl;(exact ah rfl rfl);apply ae rfl;(exact aJ rfl rfl rfl hw2);apply ae rfl;(exact aB rfl rfl rfl rfl);refine aq ?_;refine an ?_)
  refine bM rfl (fun hlt=> ?_) (fun hlt=> ?_)
  ·(refine aG ?_;refine an ?_;refine aj ?_;refine aD ?_;refine ag ?_;apply ae rfl;(exact ah rfl rfl);apply ae rfl;(exact ah rfl rfl);apply ae rfl;(exact cJ (E:=2) rfl (by as_aux_lemma=>kernel_rfl) rfl);apply ae rfl;(first | exact aJ rfl rfl rfl hwa | exact bp rfl (by as_aux_lemma=>kernel_rfl) rfl rfl rfl (cF _ _) rfl rfl (by omega));apply ae rfl;(exact ai rfl rfl);refine aq ?_;refine aI ?_;refine an ?_;refine ag ?_;apply ae rfl;(exact ah rfl rfl);apply ae rfl;(first | exact aJ rfl rfl rfl hwa | exact bp rfl (by as_aux_lemma=>kernel_rfl) rfl rfl rfl (cF _ _) rfl rfl (by omega));apply ae rfl;(exact ai rfl rfl);refine aq ?_)
   exact aX (k + 1) (by omega) (by omega) (Wk.of ⟨rfl,rfl,rfl,trivial⟩ ⟨by rw [fC];rfl,trivial⟩ trivial)
  ·obtain rfl:k=m + 1:=by omega
   (refine a6 ?_;refine aE ?_;refine aE ?_;refine aP ?_;refine aI ?_;refine an ?_;refine aj ?_;refine ag ?_;apply ae rfl;(exact ah rfl rfl);apply ae rfl;(exact ai rfl rfl);refine aq ?_;refine an ?_;refine aK ?_)
   exact aW (.inl rfl) rfl (.tmp rfl) ⟨rfl,trivial⟩ trivial
set_option maxRecDepth 100000 in
set_option maxHeartbeats 2000000 in
theorem qS (zss:List (List Int)) (i m:Nat) (labs:List Int) (hi:i < zss.length) (hlb:cD zss i=labs) (hm:labs.length=m) (hm4:m≤4) (h0:0 < m) (hq:¬(m=1∧0 < aC labs 0)) (e1:bA labs [3,5]=false) (e2:bA labs [3,3,5]=false) (e3:bA labs [3,4,3]=false) (h2:2≤m) (hA:aC labs 0=3) (ht:ef labs=true) (hlast:aC (ends labs) (labs.length - 1)=4):
  FC Tryz.prog 116 [(1000,bu zss)] [o1 (.esl 1000 i 0 m)] [(65,bI (eD (m + 1) 2))] (o1 (.sl 65 0 (m + 1))) []:=by
 have hrow:(cM zss)[i]? =some (aH labs):=by rw [←hlb];exact bV hi
 have hilm:m≤(aH labs).length:=by rw [aO,hm];exact Nat.le_refl _
 have hE1:=(bw zss i m 2 labs [3,5] hi hlb hm rfl (by omega) (by omega)).nm [(1000,1000),(1001,31)] (by kernel_rfl)
 have hE1:FC Tryz.prog 142 [(1000,bu zss),(31,cf [3,5])] [o1 (.esl 1000 i 0 m),o1 (.sl 31 0 2)] [] (vv (.bool (bA labs [3,5]))) []:=hE1
 rw [e1] at hE1
 have hE2:=(bw zss i m 3 labs [3,3,5] hi hlb hm rfl (by omega) (by omega)).nm [(1000,1000),(1001,36)] (by kernel_rfl)
 have hE2:FC Tryz.prog 142 [(1000,bu zss),(36,cf [3,3,5])] [o1 (.esl 1000 i 0 m),o1 (.sl 36 0 3)] [] (vv (.bool (bA labs [3,3,5]))) []:=hE2
 rw [e2] at hE2
 have hE3:=(bw zss i m 3 labs [3,4,3] hi hlb hm rfl (by omega) (by omega)).nm [(1000,1000),(1001,41)] (by kernel_rfl)
 have hE3:FC Tryz.prog 142 [(1000,bu zss),(41,cf [3,4,3])] [o1 (.esl 1000 i 0 m),o1 (.sl 41 0 3)] [] (vv (.bool (bA labs [3,4,3]))) []:=hE3
 rw [e3] at hE3
 refine a5 (nt:=97) Tryz.func116 rfl rfl (by simp) fun w0 ω0=> ?_
 have hgl:(aH labs)[0]? =some (I6 (aC labs 0)):=aR (by omega)
 have hE:ends labs=labs:=by unfold ends;rw [if_pos hA]
 have hw1:IntKind.i64.wrap ((m:Int) + 1)=(m:Int) + 1:=IntWalk.i64_in _ (by omega)
 (refine aj ?_;refine ag ?_;apply ae rfl;(exact ai rfl rfl);refine aq ?_;refine an ?_;refine aj ?_;refine ag ?_;apply ae rfl;(exact ah rfl rfl);apply ae rfl;(exact br rfl rfl rfl (by as_aux_lemma=>kernel_rfl));apply ae rfl;(exact aJ rfl rfl rfl hw1);apply ae rfl;(exact ai rfl rfl);refine aq ?_;refine an ?_;refine aj ?_;refine aD ?_;refine aj ?_;refine ag ?_;apply ae rfl;(exact ah rfl rfl);apply ae rfl;(exact aB rfl rfl rfl rfl);apply ae rfl;(exact ai rfl rfl);refine aq ?_;refine an ?_)
 refine ax rfl (fun e=> ?_) (fun _=> ?_)
 ·exfalso;simp at e;omega
 (repeat (first | refine aj ?_ | refine an ?_ | refine aG ?_ | refine aD ?_ | refine aI ?_ | refine a6 ?_ | refine aP ?_ | refine bP rfl ?_ | refine aE ?_))
 refine cq (St.of [(0,o1 (.esl 1000 i 0 m)),(3,vv (I6 ((m:Int) + 1))),(16,vv (.bool false))] [(1000,bu zss)]) ?_ ?_
 ·refine ag ?_
  (apply ae rfl;(exact ah rfl rfl);apply ae rfl;(exact aB rfl rfl rfl rfl);apply ae rfl;(exact ah rfl rfl))
  refine bH 19 rfl (fun e1=> ?_) (fun e1=> ?_)
  ·have e1:m=1:=by simp at e1;omega
   have hg2:¬aC labs 0 > 0:=fun h=>hq ⟨e1,h⟩
   have hgl:(aH labs)[0]? =some (I6 (aC labs 0)):=aR (by omega)
   have hbf:df .i64 .gtr (aC labs 0) 0=some (.bool false):=by simp [df];omega
   (apply aw rfl rfl rfl;(exact ah rfl rfl);apply aw rfl rfl rfl;(first | exact aB rfl rfl rfl hbf | exact bj (j:=0) rfl rfl rfl rfl rfl (by as_aux_lemma=>kernel_rfl) hrow rfl (by omega) hilm | exact aQ rfl (by as_aux_lemma=>kernel_rfl) rfl rfl rfl hrow hgl);apply aw rfl rfl rfl;(first | exact aB rfl rfl rfl hbf | exact bj (j:=0) rfl rfl rfl rfl rfl (by as_aux_lemma=>kernel_rfl) hrow rfl (by omega) hilm | exact aQ rfl (by as_aux_lemma=>kernel_rfl) rfl rfl rfl hrow hgl);apply aw rfl rfl rfl;(first | exact aB rfl rfl rfl hbf | exact bj (j:=0) rfl rfl rfl rfl rfl (by as_aux_lemma=>kernel_rfl) hrow rfl (by omega) hilm | exact aQ rfl (by as_aux_lemma=>kernel_rfl) rfl rfl rfl hrow hgl);apply ae rfl;(exact aY rfl rfl rfl);apply ae rfl;(exact ai rfl rfl);refine aq ?_)
   exact aU (Wk.of ⟨rfl,rfl,rfl,trivial⟩ ⟨rfl,trivial⟩ trivial)
  ·(apply aA rfl rfl rfl rfl rfl;apply aA rfl rfl rfl rfl rfl;apply aA rfl rfl rfl rfl rfl;apply aA rfl rfl rfl rfl rfl;apply ae rfl;(exact a7 rfl rfl rfl);apply ae rfl;(exact ai rfl rfl);refine aq ?_)
   exact aU (Wk.of ⟨rfl,rfl,rfl,trivial⟩ ⟨rfl,trivial⟩ trivial)
 (refine an ?_)
 refine ax rfl (fun e=>by cases e) (fun _=> ?_)
 (refine aj ?_;refine ag ?_;apply ae rfl;(exact ah rfl rfl);apply ae rfl;(exact cr (E:=2) rfl (by as_aux_lemma=>kernel_rfl) rfl rfl);apply ae rfl;(first | (apply ar 142;exact au hE1 (by as_aux_lemma=>kernel_rfl) rfl rfl ⟨rfl,rfl,trivial⟩ ⟨⟨_,rfl, .inl rfl⟩,⟨_,rfl, .inr rfl⟩,trivial⟩ rfl rfl) | exact aM (E:=2) rfl (by as_aux_lemma=>kernel_rfl) rfl rfl rfl | exact aL (E:=2) rfl (by as_aux_lemma=>kernel_rfl) rfl rfl rfl rfl);apply ae rfl;(exact ai rfl rfl);refine aq ?_;refine an ?_)
 refine ax rfl (fun e=>by cases e) (fun _=> ?_)
 (refine aj ?_;refine ag ?_;apply ae rfl;(exact ah rfl rfl);apply ae rfl;(first | (apply ar 142;exact au hE2 (by as_aux_lemma=>kernel_rfl) rfl rfl ⟨rfl,rfl,trivial⟩ ⟨⟨_,rfl, .inl rfl⟩,⟨_,rfl, .inr rfl⟩,trivial⟩ rfl rfl) | exact aM (E:=2) rfl (by as_aux_lemma=>kernel_rfl) rfl rfl rfl | exact aL (E:=2) rfl (by as_aux_lemma=>kernel_rfl) rfl rfl rfl rfl);apply ae rfl;(first | (apply ar 142;exact au hE2 (by as_aux_lemma=>kernel_rfl) rfl rfl ⟨rfl,rfl,trivial⟩ ⟨⟨_,rfl, .inl rfl⟩,⟨_,rfl, .inr rfl⟩,trivial⟩ rfl rfl) | exact aM (E:=2) rfl (by as_aux_lemma=>kernel_rfl) rfl rfl rfl | exact aL (E:=2) rfl (by as_aux_lemma=>kernel_rfl) rfl rfl rfl rfl);apply ae rfl;(exact ai rfl rfl);refine aq ?_;refine an ?_)
 refine ax rfl (fun e=>by cases e) (fun _=> ?_)
 (refine aj ?_;refine ag ?_;apply ae rfl;(exact ah rfl rfl);apply ae rfl;(first | (apply ar 142;exact au hE3 (by as_aux_lemma=>kernel_rfl) rfl rfl ⟨rfl,rfl,trivial⟩ ⟨⟨_,rfl, .inl rfl⟩,⟨_,rfl, .inr rfl⟩,trivial⟩ rfl rfl) | exact aM (E:=2) rfl (by as_aux_lemma=>kernel_rfl) rfl rfl rfl | exact aL (E:=2) rfl (by as_aux_lemma=>kernel_rfl) rfl rfl rfl rfl);apply ae rfl;(first | (apply ar 142;exact au hE3 (by as_aux_lemma=>kernel_rfl) rfl rfl ⟨rfl,rfl,trivial⟩ ⟨⟨_,rfl, .inl rfl⟩,⟨_,rfl, .inr rfl⟩,trivial⟩ rfl rfl) | exact aM (E:=2) rfl (by as_aux_lemma=>kernel_rfl) rfl rfl rfl | exact aL (E:=2) rfl (by as_aux_lemma=>kernel_rfl) rfl rfl rfl rfl);apply ae rfl;(exact ai rfl rfl);refine aq ?_;refine an ?_)
 refine ax rfl (fun e=>by cases e) (fun _=> ?_)
 (refine aG ?_;refine aI ?_;refine an ?_;refine aj ?_;refine aj ?_;refine ag ?_;apply ae rfl;(exact ah rfl rfl);apply ae rfl;(exact aB rfl rfl rfl rfl);refine aq ?_;refine an ?_)
 refine ax rfl (fun e=> ?_) (fun _=> ?_)
 ·exfalso;simp at e;omega
 (refine aG ?_;refine an ?_;refine aj ?_;refine ag ?_;apply ae rfl;(exact ah rfl rfl);apply ae rfl;(exact ai rfl rfl);refine aq ?_;refine an ?_;refine aj ?_;refine aj ?_;refine ag ?_;apply ae rfl;(exact ah rfl rfl);apply ae rfl;(first | exact bj (j:=0) rfl rfl rfl rfl rfl (by as_aux_lemma=>kernel_rfl) hrow rfl (by omega) hilm | exact aQ rfl (by as_aux_lemma=>kernel_rfl) rfl rfl rfl hrow hgl);apply ae rfl;(first | exact bj (j:=0) rfl rfl rfl rfl rfl (by as_aux_lemma=>kernel_rfl) hrow rfl (by omega) hilm | exact aQ rfl (by as_aux_lemma=>kernel_rfl) rfl rfl rfl hrow hgl);apply ae rfl;(exact aB rfl rfl rfl rfl);refine aq ?_;refine an ?_)
 refine ax rfl (fun e=> ?_) (fun e=> ?_)
 ·exfalso;simp at e;exact e hA
 (refine aG ?_;refine an ?_;refine aj ?_;refine aj ?_;refine ag ?_;apply ae rfl;(exact ai rfl rfl);refine aq ?_;refine an ?_;refine aD ?_)
 refine bx (fun k:Nat=>St.of [(3,vv (I6 ((m:Int) + 1))),(4,o1 (.esl 1000 i 0 m)),(5,vv (I6 k))] [(1000,bu zss)]) (fun k=>k≤m - 1∧∀q,q < k→aC (ends labs) q=3) (fun k=>m - k) 0 ⟨Nat.zero_le _,fun q h=>absurd h (by omega)⟩ (Wk.of ⟨rfl,rfl,rfl,trivial⟩ ⟨rfl,trivial⟩ trivial) ?_
 rintro k ⟨hk,hq3⟩
 have hkm:k < m:=by omega
 have hgk:(aH labs)[k]? =some (I6 (aC (ends labs) k)):=by rw [hE];exact aR (by first | omega | (rw [List.length_reverse];omega))
 have hwk:IntKind.i64.wrap ((k:Int) + 1)=(k:Int) + 1:=IntWalk.i64_in _ (by omega)
 (refine aj ?_;refine aj ?_;refine ag ?_;apply ae rfl;(exact ah rfl rfl);apply ae rfl;(exact aJ rfl rfl rfl hwk);apply ae rfl;(exact ah rfl rfl);apply ae rfl;(exact br rfl rfl rfl (by as_aux_lemma=>kernel_rfl));apply ae rfl;(exact aB rfl rfl rfl rfl);refine aq ?_;refine an ?_)
 refine bM rfl (fun hlt=> ?_) (fun hlt=> ?_)
 ·(refine aG ?_;refine an ?_;refine aj ?_;refine aD ?_;refine aj ?_;refine ag ?_;apply ae rfl;(exact ah rfl rfl);apply ae rfl;(exact ah rfl rfl);apply ae rfl;(first | exact bj (j:=k) rfl rfl rfl rfl rfl (by as_aux_lemma=>kernel_rfl) hrow rfl hkm hilm | exact aQ rfl (by as_aux_lemma=>kernel_rfl) rfl rfl rfl hrow hgk);apply ae rfl;(first | exact bj (j:=k) rfl rfl rfl rfl rfl (by as_aux_lemma=>kernel_rfl) hrow rfl hkm hilm | exact aQ rfl (by as_aux_lemma=>kernel_rfl) rfl rfl rfl hrow hgk);apply ae rfl;(exact aB rfl rfl rfl rfl);refine aq ?_;refine an ?_)
  refine ax rfl (fun e=> ?_) (fun e=> ?_)
  ·exfalso
   have:=fE ht (k:=k) (by omega)
   simp at e
   exact e this
  ·have e:aC (ends labs) k=3:=by simpa using e
   (refine aG ?_;refine aI ?_;refine an ?_;refine ag ?_;apply ae rfl;(exact ah rfl rfl);apply ae rfl;(exact aJ rfl rfl rfl hwk);apply ae rfl;(exact ai rfl rfl);refine aq ?_)
   exact aX (k + 1) ⟨by omega,fun q h=>by
    by_cases e':q=k
    ·subst e';exact e
    ·exact hq3 q (by omega)⟩ (by omega) (Wk.of ⟨rfl,rfl,rfl,trivial⟩ ⟨rfl,trivial⟩ trivial)
 ·have hgm:(aH labs)[m - 1]? =some (I6 (aC (ends labs) (m - 1))):=by rw [hE];exact aR (by first | omega | (rw [List.length_reverse];omega))
  have hm1:(m:Int) - 1=((m - 1:Nat):Int):=by omega
  have hws:IntKind.i64.wrap ((m:Int) - 1)=(m:Int) - 1:=IntWalk.i64_in _ (by omega)
  rw [hm] at hlast
  (refine a6 ?_;refine aE ?_;refine aE ?_;refine aP ?_;refine an ?_;refine aj ?_;refine ag ?_;apply ae rfl;(exact dr (E:=2) (k:=1) rfl (by as_aux_lemma=>kernel_rfl));apply ae rfl;(exact ai rfl rfl);refine aq ?_;refine an ?_;refine aj ?_;refine aj ?_;refine ag ?_;apply ae rfl;(exact ah rfl rfl);apply ae rfl;(exact ah rfl rfl);apply ae rfl;(exact br rfl rfl rfl (by as_aux_lemma=>kernel_rfl));apply ae rfl;(first | exact bf rfl rfl rfl hws | exact bj (j:=m - 1) rfl rfl rfl rfl rfl (by as_aux_lemma=>kernel_rfl) hrow hm1 (by omega) hilm | exact aQ rfl (by as_aux_lemma=>kernel_rfl) rfl rfl rfl hrow hgm);apply ae rfl;(first | exact bf rfl rfl rfl hws | exact bj (j:=m - 1) rfl rfl rfl rfl rfl (by as_aux_lemma=>kernel_rfl) hrow hm1 (by omega) hilm | exact aQ rfl (by as_aux_lemma=>kernel_rfl) rfl rfl rfl hrow hgm);apply ae rfl;(first | exact bf rfl rfl rfl hws | exact bj (j:=m - 1) rfl rfl rfl rfl rfl (by as_aux_lemma=>kernel_rfl) hrow hm1 (by omega) hilm | exact aQ rfl (by as_aux_lemma=>kernel_rfl) rfl rfl rfl hrow hgm);refine aq ?_;refine an ?_;refine aD ?_;refine aj ?_;refine ag ?_;apply ae rfl;(exact aB rfl rfl rfl rfl);apply ae rfl;(exact ai rfl rfl);refine aq ?_;refine an ?_)
  refine ax rfl (fun e=> ?_) (fun _=> ?_)
  ·exfalso;simp at e;omega
  (refine aj ?_;refine ag ?_;apply ae rfl;(exact aB rfl rfl rfl rfl);apply ae rfl;(exact ai rfl rfl);refine aq ?_;refine an ?_)
  refine ax rfl (fun _=> ?_) (fun e=> ?_)
  rotate_left
  ·exfalso;simp at e;exact e hlast
  (refine aj ?_;refine ag ?_;apply ae rfl;(exact ai rfl rfl);refine aq ?_;refine an ?_;refine aD ?_)
  have hw2:IntKind.i64.wrap (2 * ((m:Int) + 1))=2 * ((m:Int) + 1):=IntWalk.i64_in _ (by omega)
  refine bx (fun k:Nat=>St.of [(3,vv (I6 ((m:Int) + 1))),(6,o1 (.sl 65 0 k)),(8,vv (I6 (2 + 2 * (k:Int))))] [(65,bI (eD k 2))]) (fun k=>k≤m + 1) (fun k=>m + 1 - k) 0 (Nat.zero_le _) (Wk.of ⟨rfl,rfl,rfl,trivial⟩ ⟨rfl,trivial⟩ trivial) ?_
  rintro k hk
  have hwa:IntKind.i64.wrap (2 + 2 * (k:Int) + 2)=2 + 2 * ((k + 1:Nat):Int):=(IntWalk.i64_in _ (by omega)).trans (by omega)
  (refine aj ?_;refine aj ?_;refine ag ?_;apply ae rfl;(exact ah rfl rfl);apply ae rfl;(exact ah rfl rfl);apply ae rfl;(exact cV rfl rfl rfl hw2);apply ae rfl;(exact aB rfl rfl rfl rfl);refine aq ?_;refine an ?_)
  refine bM rfl (fun hlt=> ?_) (fun hlt=> ?_)
  ·(refine aG ?_;refine an ?_;refine aj ?_;refine aD ?_;refine ag ?_;apply ae rfl;(exact ah rfl rfl);apply ae rfl;(exact ah rfl rfl);apply ae rfl;(exact cJ (E:=2) rfl (by as_aux_lemma=>kernel_rfl) rfl);apply ae rfl;(first | exact aJ rfl rfl rfl hwa | exact bp rfl (by as_aux_lemma=>kernel_rfl) rfl rfl rfl (cF _ _) rfl rfl (by omega));apply ae rfl;(exact ai rfl rfl);refine aq ?_;refine aI ?_;refine an ?_;refine ag ?_;apply ae rfl;(exact ah rfl rfl);apply ae rfl;(first | exact aJ rfl rfl rfl hwa | exact bp rfl (by as_aux_lemma=>kernel_rfl) rfl rfl rfl (cF _ _) rfl rfl (by omega));apply ae rfl;(exact ai rfl rfl);refine aq ?_)
   exact aX (k + 1) (by omega) (by omega) (Wk.of ⟨rfl,rfl,rfl,trivial⟩ ⟨by rw [fC];rfl,trivial⟩ trivial)
  ·obtain rfl:k=m + 1:=by omega
   (refine a6 ?_;refine aE ?_;refine aE ?_;refine aP ?_;refine aI ?_;refine an ?_;refine aj ?_;refine ag ?_;apply ae rfl;(exact ah rfl rfl);apply ae rfl;(exact ai rfl rfl);refine aq ?_;refine an ?_;refine aK ?_)
   exact aW (.inl rfl) rfl (.tmp rfl) ⟨rfl,trivial⟩ trivial
set_option maxRecDepth 100000 in
set_option maxHeartbeats 2000000 in
theorem qd (zss:List (List Int)) (i m:Nat) (labs:List Int) (hi:i < zss.length) (hlb:cD zss i=labs) (hm:labs.length=m) (hm4:m≤4) (h0:0 < m) (hq:¬(m=1∧0 < aC labs 0)) (e1:bA labs [3,5]=false) (e2:bA labs [3,3,5]=false) (e3:bA labs [3,4,3]=false) (h2:2≤m) (hA:aC labs 0=3) (ht:ef labs=true) (hlast:aC (ends labs) (labs.length - 1)≠3∧aC (ends labs) (labs.length - 1)≠4):
  FC Tryz.prog 116 [(1000,bu zss)] [o1 (.esl 1000 i 0 m)] [(65,bI [])] (o1 (.sl 65 0 0)) []:=by
 have hrow:(cM zss)[i]? =some (aH labs):=by rw [←hlb];exact bV hi
 have hilm:m≤(aH labs).length:=by rw [aO,hm];exact Nat.le_refl _
 have hE1:=(bw zss i m 2 labs [3,5] hi hlb hm rfl (by omega) (by omega)).nm [(1000,1000),(1001,31)] (by kernel_rfl)
 have hE1:FC Tryz.prog 142 [(1000,bu zss),(31,cf [3,5])] [o1 (.esl 1000 i 0 m),o1 (.sl 31 0 2)] [] (vv (.bool (bA labs [3,5]))) []:=hE1
 rw [e1] at hE1
 have hE2:=(bw zss i m 3 labs [3,3,5] hi hlb hm rfl (by omega) (by omega)).nm [(1000,1000),(1001,36)] (by kernel_rfl)
 have hE2:FC Tryz.prog 142 [(1000,bu zss),(36,cf [3,3,5])] [o1 (.esl 1000 i 0 m),o1 (.sl 36 0 3)] [] (vv (.bool (bA labs [3,3,5]))) []:=hE2
 rw [e2] at hE2
 have hE3:=(bw zss i m 3 labs [3,4,3] hi hlb hm rfl (by omega) (by omega)).nm [(1000,1000),(1001,41)] (by kernel_rfl)
 have hE3:FC Tryz.prog 142 [(1000,bu zss),(41,cf [3,4,3])] [o1 (.esl 1000 i 0 m),o1 (.sl 41 0 3)] [] (vv (.bool (bA labs [3,4,3]))) []:=hE3
 rw [e3] at hE3
 refine a5 (nt:=97) Tryz.func116 rfl rfl (by simp) fun w0 ω0=> ?_
 have hgl:(aH labs)[0]? =some (I6 (aC labs 0)):=aR (by omega)
 have hE:ends labs=labs:=by unfold ends;rw [if_pos hA]
 have hw1:IntKind.i64.wrap ((m:Int) + 1)=(m:Int) + 1:=IntWalk.i64_in _ (by omega)
 (refine aj ?_;refine ag ?_;apply ae rfl;(exact ai rfl rfl);refine aq ?_;refine an ?_;refine aj ?_;refine ag ?_;apply ae rfl;(exact ah rfl rfl);apply ae rfl;(exact br rfl rfl rfl (by as_aux_lemma=>kernel_rfl));apply ae rfl;(exact aJ rfl rfl rfl hw1);apply ae rfl;(exact ai rfl rfl);refine aq ?_;refine an ?_;refine aj ?_;refine aD ?_;refine aj ?_;refine ag ?_;apply ae rfl;(exact ah rfl rfl);apply ae rfl;(exact aB rfl rfl rfl rfl);apply ae rfl;(exact ai rfl rfl);refine aq ?_;refine an ?_)
 refine ax rfl (fun e=> ?_) (fun _=> ?_)
 ·exfalso;simp at e;omega
 (repeat (first | refine aj ?_ | refine an ?_ | refine aG ?_ | refine aD ?_ | refine aI ?_ | refine a6 ?_ | refine aP ?_ | refine bP rfl ?_ | refine aE ?_))
 refine cq (St.of [(0,o1 (.esl 1000 i 0 m)),(3,vv (I6 ((m:Int) + 1))),(16,vv (.bool false))] [(1000,bu zss)]) ?_ ?_
 ·refine ag ?_
  (apply ae rfl;(exact ah rfl rfl);apply ae rfl;(exact aB rfl rfl rfl rfl);apply ae rfl;(exact ah rfl rfl))
  refine bH 19 rfl (fun e1=> ?_) (fun e1=> ?_)
  ·have e1:m=1:=by simp at e1;omega
   have hg2:¬aC labs 0 > 0:=fun h=>hq ⟨e1,h⟩
   have hgl:(aH labs)[0]? =some (I6 (aC labs 0)):=aR (by omega)
   have hbf:df .i64 .gtr (aC labs 0) 0=some (.bool false):=by simp [df];omega
   (apply aw rfl rfl rfl;(exact ah rfl rfl);apply aw rfl rfl rfl;(first | exact aB rfl rfl rfl hbf | exact bj (j:=0) rfl rfl rfl rfl rfl (by as_aux_lemma=>kernel_rfl) hrow rfl (by omega) hilm | exact aQ rfl (by as_aux_lemma=>kernel_rfl) rfl rfl rfl hrow hgl);apply aw rfl rfl rfl;(first | exact aB rfl rfl rfl hbf | exact bj (j:=0) rfl rfl rfl rfl rfl (by as_aux_lemma=>kernel_rfl) hrow rfl (by omega) hilm | exact aQ rfl (by as_aux_lemma=>kernel_rfl) rfl rfl rfl hrow hgl);apply aw rfl rfl rfl;(first | exact aB rfl rfl rfl hbf | exact bj (j:=0) rfl rfl rfl rfl rfl (by as_aux_lemma=>kernel_rfl) hrow rfl (by omega) hilm | exact aQ rfl (by as_aux_lemma=>kernel_rfl) rfl rfl rfl hrow hgl);apply ae rfl;(exact aY rfl rfl rfl);apply ae rfl;(exact ai rfl rfl);refine aq ?_)
   exact aU (Wk.of ⟨rfl,rfl,rfl,trivial⟩ ⟨rfl,trivial⟩ trivial)
  ·(apply aA rfl rfl rfl rfl rfl;apply aA rfl rfl rfl rfl rfl;apply aA rfl rfl rfl rfl rfl;apply aA rfl rfl rfl rfl rfl;apply ae rfl;(exact a7 rfl rfl rfl);apply ae rfl;(exact ai rfl rfl);refine aq ?_)
   exact aU (Wk.of ⟨rfl,rfl,rfl,trivial⟩ ⟨rfl,trivial⟩ trivial)
 (refine an ?_)
 refine ax rfl (fun e=>by cases e) (fun _=> ?_)
 (refine aj ?_;refine ag ?_;apply ae rfl;(exact ah rfl rfl);apply ae rfl;(exact cr (E:=2) rfl (by as_aux_lemma=>kernel_rfl) rfl rfl);apply ae rfl;(first | (apply ar 142;exact au hE1 (by as_aux_lemma=>kernel_rfl) rfl rfl ⟨rfl,rfl,trivial⟩ ⟨⟨_,rfl, .inl rfl⟩,⟨_,rfl, .inr rfl⟩,trivial⟩ rfl rfl) | exact aM (E:=2) rfl (by as_aux_lemma=>kernel_rfl) rfl rfl rfl | exact aL (E:=2) rfl (by as_aux_lemma=>kernel_rfl) rfl rfl rfl rfl);apply ae rfl;(exact ai rfl rfl);refine aq ?_;refine an ?_)
 refine ax rfl (fun e=>by cases e) (fun _=> ?_)
 (refine aj ?_;refine ag ?_;apply ae rfl;(exact ah rfl rfl);apply ae rfl;(first | (apply ar 142;exact au hE2 (by as_aux_lemma=>kernel_rfl) rfl rfl ⟨rfl,rfl,trivial⟩ ⟨⟨_,rfl, .inl rfl⟩,⟨_,rfl, .inr rfl⟩,trivial⟩ rfl rfl) | exact aM (E:=2) rfl (by as_aux_lemma=>kernel_rfl) rfl rfl rfl | exact aL (E:=2) rfl (by as_aux_lemma=>kernel_rfl) rfl rfl rfl rfl);apply ae rfl;(first | (apply ar 142;exact au hE2 (by as_aux_lemma=>kernel_rfl) rfl rfl ⟨rfl,rfl,trivial⟩ ⟨⟨_,rfl, .inl rfl⟩,⟨_,rfl, .inr rfl⟩,trivial⟩ rfl rfl) | exact aM (E:=2) rfl (by as_aux_lemma=>kernel_rfl) rfl rfl rfl | exact aL (E:=2) rfl (by as_aux_lemma=>kernel_rfl) rfl rfl rfl rfl);apply ae rfl;(exact ai rfl rfl);refine aq ?_;refine an ?_)
 refine ax rfl (fun e=>by cases e) (fun _=> ?_)
 (refine aj ?_;refine ag ?_;apply ae rfl;(exact ah rfl rfl);apply ae rfl;(first | (apply ar 142;exact au hE3 (by as_aux_lemma=>kernel_rfl) rfl rfl ⟨rfl,rfl,trivial⟩ ⟨⟨_,rfl, .inl rfl⟩,⟨_,rfl, .inr rfl⟩,trivial⟩ rfl rfl) | exact aM (E:=2) rfl (by as_aux_lemma=>kernel_rfl) rfl rfl rfl | exact aL (E:=2) rfl (by as_aux_lemma=>kernel_rfl) rfl rfl rfl rfl);apply ae rfl;(first | (apply ar 142;exact au hE3 (by as_aux_lemma=>kernel_rfl) rfl rfl ⟨rfl,rfl,trivial⟩ ⟨⟨_,rfl, .inl rfl⟩,⟨_,rfl, .inr rfl⟩,trivial⟩ rfl rfl) | exact aM (E:=2) rfl (by as_aux_lemma=>kernel_rfl) rfl rfl rfl | exact aL (E:=2) rfl (by as_aux_lemma=>kernel_rfl) rfl rfl rfl rfl);apply ae rfl;(exact ai rfl rfl);refine aq ?_;refine an ?_)
 refine ax rfl (fun e=>by cases e) (fun _=> ?_)
 (refine aG ?_;refine aI ?_;refine an ?_;refine aj ?_;refine aj ?_;refine ag ?_;apply ae rfl;(exact ah rfl rfl);apply ae rfl;(exact aB rfl rfl rfl rfl);refine aq ?_;refine an ?_)
 refine ax rfl (fun e=> ?_) (fun _=> ?_)
 ·exfalso;simp at e;omega
 (refine aG ?_;refine an ?_;refine aj ?_;refine ag ?_;apply ae rfl;(exact ah rfl rfl);apply ae rfl;(exact ai rfl rfl);refine aq ?_;refine an ?_;refine aj ?_;refine aj ?_;refine ag ?_;apply ae rfl;(exact ah rfl rfl);apply ae rfl;(first | exact bj (j:=0) rfl rfl rfl rfl rfl (by as_aux_lemma=>kernel_rfl) hrow rfl (by omega) hilm | exact aQ rfl (by as_aux_lemma=>kernel_rfl) rfl rfl rfl hrow hgl);apply ae rfl;(first | exact bj (j:=0) rfl rfl rfl rfl rfl (by as_aux_lemma=>kernel_rfl) hrow rfl (by omega) hilm | exact aQ rfl (by as_aux_lemma=>kernel_rfl) rfl rfl rfl hrow hgl);apply ae rfl;(exact aB rfl rfl rfl rfl);refine aq ?_;refine an ?_)
 refine ax rfl (fun e=> ?_) (fun e=> ?_)
 ·exfalso;simp at e;exact e hA
 (refine aG ?_;refine an ?_;refine aj ?_;refine aj ?_;refine ag ?_;apply ae rfl;(exact ai rfl rfl);refine aq ?_;refine an ?_;refine aD ?_)
 refine bx (fun k:Nat=>St.of [(3,vv (I6 ((m:Int) + 1))),(4,o1 (.esl 1000 i 0 m)),(5,vv (I6 k))] [(1000,bu zss)]) (fun k=>k≤m - 1∧∀q,q < k→aC (ends labs) q=3) (fun k=>m - k) 0 ⟨Nat.zero_le _,fun q h=>absurd h (by omega)⟩ (Wk.of ⟨rfl,rfl,rfl,trivial⟩ ⟨rfl,trivial⟩ trivial) ?_
 rintro k ⟨hk,hq3⟩
 have hkm:k < m:=by omega
 have hgk:(aH labs)[k]? =some (I6 (aC (ends labs) k)):=by rw [hE];exact aR (by first | omega | (rw [List.length_reverse];omega))
 have hwk:IntKind.i64.wrap ((k:Int) + 1)=(k:Int) + 1:=IntWalk.i64_in _ (by omega)
 (refine aj ?_;refine aj ?_;refine ag ?_;apply ae rfl;(exact ah rfl rfl);apply ae rfl;(exact aJ rfl rfl rfl hwk);apply ae rfl;(exact ah rfl rfl);apply ae rfl;(exact br rfl rfl rfl (by as_aux_lemma=>kernel_rfl));apply ae rfl;(exact aB rfl rfl rfl rfl);refine aq ?_;refine an ?_)
 refine bM rfl (fun hlt=> ?_) (fun hlt=> ?_)
 ·(refine aG ?_;refine an ?_;refine aj ?_;refine aD ?_;refine aj ?_;refine ag ?_;apply ae rfl;(exact ah rfl rfl);apply ae rfl;(exact ah rfl rfl);apply ae rfl;(first | exact bj (j:=k) rfl rfl rfl rfl rfl (by as_aux_lemma=>kernel_rfl) hrow rfl hkm hilm | exact aQ rfl (by as_aux_lemma=>kernel_rfl) rfl rfl rfl hrow hgk);apply ae rfl;(first | exact bj (j:=k) rfl rfl rfl rfl rfl (by as_aux_lemma=>kernel_rfl) hrow rfl hkm hilm | exact aQ rfl (by as_aux_lemma=>kernel_rfl) rfl rfl rfl hrow hgk);apply ae rfl;(exact aB rfl rfl rfl rfl);refine aq ?_;refine an ?_)
  refine ax rfl (fun e=> ?_) (fun e=> ?_)
  ·exfalso
   have:=fE ht (k:=k) (by omega)
   simp at e
   exact e this
  ·have e:aC (ends labs) k=3:=by simpa using e
   (refine aG ?_;refine aI ?_;refine an ?_;refine ag ?_;apply ae rfl;(exact ah rfl rfl);apply ae rfl;(exact aJ rfl rfl rfl hwk);apply ae rfl;(exact ai rfl rfl);refine aq ?_)
   exact aX (k + 1) ⟨by omega,fun q h=>by
    by_cases e':q=k
    ·subst e';exact e
    ·exact hq3 q (by omega)⟩ (by omega) (Wk.of ⟨rfl,rfl,rfl,trivial⟩ ⟨rfl,trivial⟩ trivial)
 ·have hgm:(aH labs)[m - 1]? =some (I6 (aC (ends labs) (m - 1))):=by rw [hE];exact aR (by first | omega | (rw [List.length_reverse];omega))
  have hm1:(m:Int) - 1=((m - 1:Nat):Int):=by omega
  have hws:IntKind.i64.wrap ((m:Int) - 1)=(m:Int) - 1:=IntWalk.i64_in _ (by omega)
  rw [hm] at hlast
  (refine a6 ?_;refine aE ?_;refine aE ?_;refine aP ?_;refine an ?_;refine aj ?_;refine ag ?_;apply ae rfl;(exact dr (E:=2) (k:=1) rfl (by as_aux_lemma=>kernel_rfl));apply ae rfl;(exact ai rfl rfl);refine aq ?_;refine an ?_;refine aj ?_;refine aj ?_;refine ag ?_;apply ae rfl;(exact ah rfl rfl);apply ae rfl;(exact ah rfl rfl);apply ae rfl;(exact br rfl rfl rfl (by as_aux_lemma=>kernel_rfl));apply ae rfl;(first | exact bf rfl rfl rfl hws | exact bj (j:=m - 1) rfl rfl rfl rfl rfl (by as_aux_lemma=>kernel_rfl) hrow hm1 (by omega) hilm | exact aQ rfl (by as_aux_lemma=>kernel_rfl) rfl rfl rfl hrow hgm);apply ae rfl;(first | exact bf rfl rfl rfl hws | exact bj (j:=m - 1) rfl rfl rfl rfl rfl (by as_aux_lemma=>kernel_rfl) hrow hm1 (by omega) hilm | exact aQ rfl (by as_aux_lemma=>kernel_rfl) rfl rfl rfl hrow hgm);apply ae rfl;(first | exact bf rfl rfl rfl hws | exact bj (j:=m - 1) rfl rfl rfl rfl rfl (by as_aux_lemma=>kernel_rfl) hrow hm1 (by omega) hilm | exact aQ rfl (by as_aux_lemma=>kernel_rfl) rfl rfl rfl hrow hgm);refine aq ?_;refine an ?_;refine aD ?_;refine aj ?_;refine ag ?_;apply ae rfl;(exact aB rfl rfl rfl rfl);apply ae rfl;(exact ai rfl rfl);refine aq ?_;refine an ?_)
  refine ax rfl (fun e=> ?_) (fun _=> ?_)
  ·exfalso;simp at e;exact hlast.1 e
  (refine aj ?_;refine ag ?_;apply ae rfl;(exact aB rfl rfl rfl rfl);apply ae rfl;(exact ai rfl rfl);refine aq ?_;refine an ?_)
  refine ax rfl (fun e=> ?_) (fun _=> ?_)
  ·exfalso;simp at e;exact hlast.2 e
  (refine aG ?_;refine aI ?_;refine an ?_;refine aj ?_;refine ag ?_;apply ae rfl;(exact ah rfl rfl);apply ae rfl;(exact ai rfl rfl);refine aq ?_;refine an ?_;refine aK ?_)
  exact aW (.inl rfl) rfl (.tmp rfl) ⟨rfl,trivial⟩ trivial
set_option maxRecDepth 100000 in
set_option maxHeartbeats 2000000 in
theorem qv (zss:List (List Int)) (i m:Nat) (labs:List Int) (hi:i < zss.length) (hlb:cD zss i=labs) (hm:labs.length=m) (hm4:m≤4) (h0:0 < m) (hq:¬(m=1∧0 < aC labs 0)) (e1:bA labs [3,5]=false) (e2:bA labs [3,3,5]=false) (e3:bA labs [3,4,3]=false) (h2:2≤m) (hA:aC labs 0≠3) (ht:ef labs=false):
  FC Tryz.prog 116 [(1000,bu zss)] [o1 (.esl 1000 i 0 m)] [] (vv (.slice none 0 0)) []:=by
 have hrow:(cM zss)[i]? =some (aH labs):=by rw [←hlb];exact bV hi
 have hilm:m≤(aH labs).length:=by rw [aO,hm];exact Nat.le_refl _
 have hE1:=(bw zss i m 2 labs [3,5] hi hlb hm rfl (by omega) (by omega)).nm [(1000,1000),(1001,31)] (by kernel_rfl)
 have hE1:FC Tryz.prog 142 [(1000,bu zss),(31,cf [3,5])] [o1 (.esl 1000 i 0 m),o1 (.sl 31 0 2)] [] (vv (.bool (bA labs [3,5]))) []:=hE1
 rw [e1] at hE1
 have hE2:=(bw zss i m 3 labs [3,3,5] hi hlb hm rfl (by omega) (by omega)).nm [(1000,1000),(1001,36)] (by kernel_rfl)
 have hE2:FC Tryz.prog 142 [(1000,bu zss),(36,cf [3,3,5])] [o1 (.esl 1000 i 0 m),o1 (.sl 36 0 3)] [] (vv (.bool (bA labs [3,3,5]))) []:=hE2
 rw [e2] at hE2
 have hE3:=(bw zss i m 3 labs [3,4,3] hi hlb hm rfl (by omega) (by omega)).nm [(1000,1000),(1001,41)] (by kernel_rfl)
 have hE3:FC Tryz.prog 142 [(1000,bu zss),(41,cf [3,4,3])] [o1 (.esl 1000 i 0 m),o1 (.sl 41 0 3)] [] (vv (.bool (bA labs [3,4,3]))) []:=hE3
 rw [e3] at hE3
 refine a5 (nt:=97) Tryz.func116 rfl rfl (by simp) fun w0 ω0=> ?_
 have hgl:(aH labs)[0]? =some (I6 (aC labs 0)):=aR (by omega)
 have hE:ends labs=labs.reverse:=by unfold ends;rw [if_neg hA]
 have hrl:labs.reverse.length=m:=by simpa using hm
 have hilr:m≤(aH labs.reverse).length:=by rw [aO,hrl];exact Nat.le_refl _
 have hTn:=fR 52 zss i hi (by rw [hlb];omega)
 rw [hlb,hm] at hTn
 have hw1:IntKind.i64.wrap ((m:Int) + 1)=(m:Int) + 1:=IntWalk.i64_in _ (by omega)
 (refine aj ?_;refine ag ?_;apply ae rfl;(exact ai rfl rfl);refine aq ?_;refine an ?_;refine aj ?_;refine ag ?_;apply ae rfl;(exact ah rfl rfl);apply ae rfl;(exact br rfl rfl rfl (by as_aux_lemma=>kernel_rfl));apply ae rfl;(exact aJ rfl rfl rfl hw1);apply ae rfl;(exact ai rfl rfl);refine aq ?_;refine an ?_;refine aj ?_;refine aD ?_;refine aj ?_;refine ag ?_;apply ae rfl;(exact ah rfl rfl);apply ae rfl;(exact aB rfl rfl rfl rfl);apply ae rfl;(exact ai rfl rfl);refine aq ?_;refine an ?_)
 refine ax rfl (fun e=> ?_) (fun _=> ?_)
 ·exfalso;simp at e;omega
 (repeat (first | refine aj ?_ | refine an ?_ | refine aG ?_ | refine aD ?_ | refine aI ?_ | refine a6 ?_ | refine aP ?_ | refine bP rfl ?_ | refine aE ?_))
 refine cq (St.of [(0,o1 (.esl 1000 i 0 m)),(3,vv (I6 ((m:Int) + 1))),(16,vv (.bool false))] [(1000,bu zss)]) ?_ ?_
 ·refine ag ?_
  (apply ae rfl;(exact ah rfl rfl);apply ae rfl;(exact aB rfl rfl rfl rfl);apply ae rfl;(exact ah rfl rfl))
  refine bH 19 rfl (fun e1=> ?_) (fun e1=> ?_)
  ·have e1:m=1:=by simp at e1;omega
   have hg2:¬aC labs 0 > 0:=fun h=>hq ⟨e1,h⟩
   have hgl:(aH labs)[0]? =some (I6 (aC labs 0)):=aR (by omega)
   have hbf:df .i64 .gtr (aC labs 0) 0=some (.bool false):=by simp [df];omega
   (apply aw rfl rfl rfl;(exact ah rfl rfl);apply aw rfl rfl rfl;(first | exact aB rfl rfl rfl hbf | exact bj (j:=0) rfl rfl rfl rfl rfl (by as_aux_lemma=>kernel_rfl) hrow rfl (by omega) hilm | exact aQ rfl (by as_aux_lemma=>kernel_rfl) rfl rfl rfl hrow hgl);apply aw rfl rfl rfl;(first | exact aB rfl rfl rfl hbf | exact bj (j:=0) rfl rfl rfl rfl rfl (by as_aux_lemma=>kernel_rfl) hrow rfl (by omega) hilm | exact aQ rfl (by as_aux_lemma=>kernel_rfl) rfl rfl rfl hrow hgl);apply aw rfl rfl rfl;(first | exact aB rfl rfl rfl hbf | exact bj (j:=0) rfl rfl rfl rfl rfl (by as_aux_lemma=>kernel_rfl) hrow rfl (by omega) hilm | exact aQ rfl (by as_aux_lemma=>kernel_rfl) rfl rfl rfl hrow hgl);apply ae rfl;(exact aY rfl rfl rfl);apply ae rfl;(exact ai rfl rfl);refine aq ?_)
   exact aU (Wk.of ⟨rfl,rfl,rfl,trivial⟩ ⟨rfl,trivial⟩ trivial)
  ·(apply aA rfl rfl rfl rfl rfl;apply aA rfl rfl rfl rfl rfl;apply aA rfl rfl rfl rfl rfl;apply aA rfl rfl rfl rfl rfl;apply ae rfl;(exact a7 rfl rfl rfl);apply ae rfl;(exact ai rfl rfl);refine aq ?_)
   exact aU (Wk.of ⟨rfl,rfl,rfl,trivial⟩ ⟨rfl,trivial⟩ trivial)
 (refine an ?_)
 refine ax rfl (fun e=>by cases e) (fun _=> ?_)
 (refine aj ?_;refine ag ?_;apply ae rfl;(exact ah rfl rfl);apply ae rfl;(exact cr (E:=2) rfl (by as_aux_lemma=>kernel_rfl) rfl rfl);apply ae rfl;(first | (apply ar 142;exact au hE1 (by as_aux_lemma=>kernel_rfl) rfl rfl ⟨rfl,rfl,trivial⟩ ⟨⟨_,rfl, .inl rfl⟩,⟨_,rfl, .inr rfl⟩,trivial⟩ rfl rfl) | exact aM (E:=2) rfl (by as_aux_lemma=>kernel_rfl) rfl rfl rfl | exact aL (E:=2) rfl (by as_aux_lemma=>kernel_rfl) rfl rfl rfl rfl);apply ae rfl;(exact ai rfl rfl);refine aq ?_;refine an ?_)
 refine ax rfl (fun e=>by cases e) (fun _=> ?_)
 (refine aj ?_;refine ag ?_;apply ae rfl;(exact ah rfl rfl);apply ae rfl;(first | (apply ar 142;exact au hE2 (by as_aux_lemma=>kernel_rfl) rfl rfl ⟨rfl,rfl,trivial⟩ ⟨⟨_,rfl, .inl rfl⟩,⟨_,rfl, .inr rfl⟩,trivial⟩ rfl rfl) | exact aM (E:=2) rfl (by as_aux_lemma=>kernel_rfl) rfl rfl rfl | exact aL (E:=2) rfl (by as_aux_lemma=>kernel_rfl) rfl rfl rfl rfl);apply ae rfl;(first | (apply ar 142;exact au hE2 (by as_aux_lemma=>kernel_rfl) rfl rfl ⟨rfl,rfl,trivial⟩ ⟨⟨_,rfl, .inl rfl⟩,⟨_,rfl, .inr rfl⟩,trivial⟩ rfl rfl) | exact aM (E:=2) rfl (by as_aux_lemma=>kernel_rfl) rfl rfl rfl | exact aL (E:=2) rfl (by as_aux_lemma=>kernel_rfl) rfl rfl rfl rfl);apply ae rfl;(exact ai rfl rfl);refine aq ?_;refine an ?_)
 refine ax rfl (fun e=>by cases e) (fun _=> ?_)
 (refine aj ?_;refine ag ?_;apply ae rfl;(exact ah rfl rfl);apply ae rfl;(first | (apply ar 142;exact au hE3 (by as_aux_lemma=>kernel_rfl) rfl rfl ⟨rfl,rfl,trivial⟩ ⟨⟨_,rfl, .inl rfl⟩,⟨_,rfl, .inr rfl⟩,trivial⟩ rfl rfl) | exact aM (E:=2) rfl (by as_aux_lemma=>kernel_rfl) rfl rfl rfl | exact aL (E:=2) rfl (by as_aux_lemma=>kernel_rfl) rfl rfl rfl rfl);apply ae rfl;(first | (apply ar 142;exact au hE3 (by as_aux_lemma=>kernel_rfl) rfl rfl ⟨rfl,rfl,trivial⟩ ⟨⟨_,rfl, .inl rfl⟩,⟨_,rfl, .inr rfl⟩,trivial⟩ rfl rfl) | exact aM (E:=2) rfl (by as_aux_lemma=>kernel_rfl) rfl rfl rfl | exact aL (E:=2) rfl (by as_aux_lemma=>kernel_rfl) rfl rfl rfl rfl);apply ae rfl;(exact ai rfl rfl);refine aq ?_;refine an ?_)
 refine ax rfl (fun e=>by cases e) (fun _=> ?_)
 (refine aG ?_;refine aI ?_;refine an ?_;refine aj ?_;refine aj ?_;refine ag ?_;apply ae rfl;(exact ah rfl rfl);apply ae rfl;(exact aB rfl rfl rfl rfl);refine aq ?_;refine an ?_)
 refine ax rfl (fun e=> ?_) (fun _=> ?_)
 ·exfalso;simp at e;omega
 (refine aG ?_;refine an ?_;refine aj ?_;refine ag ?_;apply ae rfl;(exact ah rfl rfl);apply ae rfl;(exact ai rfl rfl);refine aq ?_;refine an ?_;refine aj ?_;refine aj ?_;refine ag ?_;apply ae rfl;(exact ah rfl rfl);apply ae rfl;(first | exact bj (j:=0) rfl rfl rfl rfl rfl (by as_aux_lemma=>kernel_rfl) hrow rfl (by omega) hilm | exact aQ rfl (by as_aux_lemma=>kernel_rfl) rfl rfl rfl hrow hgl);apply ae rfl;(first | exact bj (j:=0) rfl rfl rfl rfl rfl (by as_aux_lemma=>kernel_rfl) hrow rfl (by omega) hilm | exact aQ rfl (by as_aux_lemma=>kernel_rfl) rfl rfl rfl hrow hgl);apply ae rfl;(exact aB rfl rfl rfl rfl);refine aq ?_;refine an ?_)
 refine ax rfl (fun e=> ?_) (fun e=> ?_)
 rotate_left
 ·exfalso;simp at e;exact hA e
 (refine ag ?_;apply ae rfl;(exact ah rfl rfl);apply ae rfl;(apply ar 143;exact bl hTn (by as_aux_lemma=>kernel_rfl) rfl rfl ⟨rfl,trivial⟩ ⟨⟨_,rfl, .inl rfl⟩,trivial⟩ rfl rfl rfl);apply ae rfl;(exact ai rfl rfl);refine aq ?_;refine an ?_;refine aj ?_;refine aj ?_;refine ag ?_;apply ae rfl;(exact ai rfl rfl);refine aq ?_;refine an ?_;refine aD ?_)
 refine bx (fun k:Nat=>St.of [(3,vv (I6 ((m:Int) + 1))),(4,o1 (.sl 52 0 m)),(5,vv (I6 k))] [(52,bI labs.reverse)]) (fun k=>k≤m - 1∧∀q,q < k→aC (ends labs) q=3) (fun k=>m - k) 0 ⟨Nat.zero_le _,fun q h=>absurd h (by omega)⟩ (Wk.of ⟨rfl,rfl,rfl,trivial⟩ ⟨rfl,trivial⟩ trivial) ?_
 rintro k ⟨hk,hq3⟩
 have hkm:k < m:=by omega
 have hgk:(aH labs.reverse)[k]? =some (I6 (aC (ends labs) k)):=by rw [hE];exact aR (by first | omega | (rw [List.length_reverse];omega))
 have hwk:IntKind.i64.wrap ((k:Int) + 1)=(k:Int) + 1:=IntWalk.i64_in _ (by omega)
 (refine aj ?_;refine aj ?_;refine ag ?_;apply ae rfl;(exact ah rfl rfl);apply ae rfl;(exact aJ rfl rfl rfl hwk);apply ae rfl;(exact ah rfl rfl);apply ae rfl;(exact br rfl rfl rfl (by as_aux_lemma=>kernel_rfl));apply ae rfl;(exact aB rfl rfl rfl rfl);refine aq ?_;refine an ?_)
 refine bM rfl (fun hlt=> ?_) (fun hlt=> ?_)
 ·(refine aG ?_;refine an ?_;refine aj ?_;refine aD ?_;refine aj ?_;refine ag ?_;apply ae rfl;(exact ah rfl rfl);apply ae rfl;(exact ah rfl rfl);apply ae rfl;(first | exact aS (j:=k) rfl rfl rfl rfl rfl (by as_aux_lemma=>kernel_rfl) rfl hkm hilr | exact aV rfl (by as_aux_lemma=>kernel_rfl) rfl rfl rfl hgk);apply ae rfl;(first | exact aS (j:=k) rfl rfl rfl rfl rfl (by as_aux_lemma=>kernel_rfl) rfl hkm hilr | exact aV rfl (by as_aux_lemma=>kernel_rfl) rfl rfl rfl hgk);apply ae rfl;(exact aB rfl rfl rfl rfl);refine aq ?_;refine an ?_)
  refine ax rfl (fun e=> ?_) (fun e=> ?_)
  ·(refine aj ?_;refine ag ?_;apply ae rfl;(exact ai rfl rfl);refine aq ?_;refine an ?_;refine aK ?_;refine bh ?_;refine aT ?_;refine aT ?_;refine bh ?_;refine aT ?_)
   exact aW (.inl rfl) rfl (.tmp rfl) trivial trivial
  ·have e:aC (ends labs) k=3:=by simpa using e
   (refine aG ?_;refine aI ?_;refine an ?_;refine ag ?_;apply ae rfl;(exact ah rfl rfl);apply ae rfl;(exact aJ rfl rfl rfl hwk);apply ae rfl;(exact ai rfl rfl);refine aq ?_)
   exact aX (k + 1) ⟨by omega,fun q h=>by
    by_cases e':q=k
    ·subst e';exact e
    ·exact hq3 q (by omega)⟩ (by omega) (Wk.of ⟨rfl,rfl,rfl,trivial⟩ ⟨rfl,trivial⟩ trivial)
 ·exfalso
  rw [nj (fun q h=>hq3 q (by omega))] at ht
  cases ht
set_option maxRecDepth 100000 in
set_option maxHeartbeats 2000000 in
theorem qF (zss:List (List Int)) (i m:Nat) (labs:List Int) (hi:i < zss.length) (hlb:cD zss i=labs) (hm:labs.length=m) (hm4:m≤4) (h0:0 < m) (hq:¬(m=1∧0 < aC labs 0)) (e1:bA labs [3,5]=false) (e2:bA labs [3,3,5]=false) (e3:bA labs [3,4,3]=false) (h2:2≤m) (hA:aC labs 0≠3) (ht:ef labs=true) (hlast:aC (ends labs) (labs.length - 1)=3):
  FC Tryz.prog 116 [(1000,bu zss)] [o1 (.esl 1000 i 0 m)] [(65,bI (eD (m + 1) 1))] (o1 (.sl 65 0 (m + 1))) []:=by
 have hrow:(cM zss)[i]? =some (aH labs):=by rw [←hlb];exact bV hi
 have hilm:m≤(aH labs).length:=by rw [aO,hm];exact Nat.le_refl _
 have hE1:=(bw zss i m 2 labs [3,5] hi hlb hm rfl (by omega) (by omega)).nm [(1000,1000),(1001,31)] (by kernel_rfl)
 have hE1:FC Tryz.prog 142 [(1000,bu zss),(31,cf [3,5])] [o1 (.esl 1000 i 0 m),o1 (.sl 31 0 2)] [] (vv (.bool (bA labs [3,5]))) []:=hE1
 rw [e1] at hE1
 have hE2:=(bw zss i m 3 labs [3,3,5] hi hlb hm rfl (by omega) (by omega)).nm [(1000,1000),(1001,36)] (by kernel_rfl)
 have hE2:FC Tryz.prog 142 [(1000,bu zss),(36,cf [3,3,5])] [o1 (.esl 1000 i 0 m),o1 (.sl 36 0 3)] [] (vv (.bool (bA labs [3,3,5]))) []:=hE2
 rw [e2] at hE2
 have hE3:=(bw zss i m 3 labs [3,4,3] hi hlb hm rfl (by omega) (by omega)).nm [(1000,1000),(1001,41)] (by kernel_rfl)
 have hE3:FC Tryz.prog 142 [(1000,bu zss),(41,cf [3,4,3])] [o1 (.esl 1000 i 0 m),o1 (.sl 41 0 3)] [] (vv (.bool (bA labs [3,4,3]))) []:=hE3
 rw [e3] at hE3
 refine a5 (nt:=97) Tryz.func116 rfl rfl (by simp) fun w0 ω0=> ?_
 have hgl:(aH labs)[0]? =some (I6 (aC labs 0)):=aR (by omega)
 have hE:ends labs=labs.reverse:=by unfold ends;rw [if_neg hA]
 have hrl:labs.reverse.length=m:=by simpa using hm
 have hilr:m≤(aH labs.reverse).length:=by rw [aO,hrl];exact Nat.le_refl _
 have hTn:=fR 52 zss i hi (by rw [hlb];omega)
 rw [hlb,hm] at hTn
 have hw1:IntKind.i64.wrap ((m:Int) + 1)=(m:Int) + 1:=IntWalk.i64_in _ (by omega)
 (refine aj ?_;refine ag ?_;apply ae rfl;(exact ai rfl rfl);refine aq ?_;refine an ?_;refine aj ?_;refine ag ?_;apply ae rfl;(exact ah rfl rfl);apply ae rfl;(exact br rfl rfl rfl (by as_aux_lemma=>kernel_rfl));apply ae rfl;(exact aJ rfl rfl rfl hw1);apply ae rfl;(exact ai rfl rfl);refine aq ?_;refine an ?_;refine aj ?_;refine aD ?_;refine aj ?_;refine ag ?_;apply ae rfl;(exact ah rfl rfl);apply ae rfl;(exact aB rfl rfl rfl rfl);apply ae rfl;(exact ai rfl rfl);refine aq ?_;refine an ?_)
 refine ax rfl (fun e=> ?_) (fun _=> ?_)
 ·exfalso;simp at e;omega
 (repeat (first | refine aj ?_ | refine an ?_ | refine aG ?_ | refine aD ?_ | refine aI ?_ | refine a6 ?_ | refine aP ?_ | refine bP rfl ?_ | refine aE ?_))
 refine cq (St.of [(0,o1 (.esl 1000 i 0 m)),(3,vv (I6 ((m:Int) + 1))),(16,vv (.bool false))] [(1000,bu zss)]) ?_ ?_
 ·refine ag ?_
  (apply ae rfl;(exact ah rfl rfl);apply ae rfl;(exact aB rfl rfl rfl rfl);apply ae rfl;(exact ah rfl rfl))
  refine bH 19 rfl (fun e1=> ?_) (fun e1=> ?_)
  ·have e1:m=1:=by simp at e1;omega
   have hg2:¬aC labs 0 > 0:=fun h=>hq ⟨e1,h⟩
   have hgl:(aH labs)[0]? =some (I6 (aC labs 0)):=aR (by omega)
   have hbf:df .i64 .gtr (aC labs 0) 0=some (.bool false):=by simp [df];omega
   (apply aw rfl rfl rfl;(exact ah rfl rfl);apply aw rfl rfl rfl;(first | exact aB rfl rfl rfl hbf | exact bj (j:=0) rfl rfl rfl rfl rfl (by as_aux_lemma=>kernel_rfl) hrow rfl (by omega) hilm | exact aQ rfl (by as_aux_lemma=>kernel_rfl) rfl rfl rfl hrow hgl);apply aw rfl rfl rfl;(first | exact aB rfl rfl rfl hbf | exact bj (j:=0) rfl rfl rfl rfl rfl (by as_aux_lemma=>kernel_rfl) hrow rfl (by omega) hilm | exact aQ rfl (by as_aux_lemma=>kernel_rfl) rfl rfl rfl hrow hgl);apply aw rfl rfl rfl;(first | exact aB rfl rfl rfl hbf | exact bj (j:=0) rfl rfl rfl rfl rfl (by as_aux_lemma=>kernel_rfl) hrow rfl (by omega) hilm | exact aQ rfl (by as_aux_lemma=>kernel_rfl) rfl rfl rfl hrow hgl);apply ae rfl;(exact aY rfl rfl rfl);apply ae rfl;(exact ai rfl rfl);refine aq ?_)
   exact aU (Wk.of ⟨rfl,rfl,rfl,trivial⟩ ⟨rfl,trivial⟩ trivial)
  ·(apply aA rfl rfl rfl rfl rfl;apply aA rfl rfl rfl rfl rfl;apply aA rfl rfl rfl rfl rfl;apply aA rfl rfl rfl rfl rfl;apply ae rfl;(exact a7 rfl rfl rfl);apply ae rfl;(exact ai rfl rfl);refine aq ?_)
   exact aU (Wk.of ⟨rfl,rfl,rfl,trivial⟩ ⟨rfl,trivial⟩ trivial)
 (refine an ?_)
 refine ax rfl (fun e=>by cases e) (fun _=> ?_)
 (refine aj ?_;refine ag ?_;apply ae rfl;(exact ah rfl rfl);apply ae rfl;(exact cr (E:=2) rfl (by as_aux_lemma=>kernel_rfl) rfl rfl);apply ae rfl;(first | (apply ar 142;exact au hE1 (by as_aux_lemma=>kernel_rfl) rfl rfl ⟨rfl,rfl,trivial⟩ ⟨⟨_,rfl, .inl rfl⟩,⟨_,rfl, .inr rfl⟩,trivial⟩ rfl rfl) | exact aM (E:=2) rfl (by as_aux_lemma=>kernel_rfl) rfl rfl rfl | exact aL (E:=2) rfl (by as_aux_lemma=>kernel_rfl) rfl rfl rfl rfl);apply ae rfl;(exact ai rfl rfl);refine aq ?_;refine an ?_)
 refine ax rfl (fun e=>by cases e) (fun _=> ?_)
 (refine aj ?_;refine ag ?_;apply ae rfl;(exact ah rfl rfl);apply ae rfl;(first | (apply ar 142;exact au hE2 (by as_aux_lemma=>kernel_rfl) rfl rfl ⟨rfl,rfl,trivial⟩ ⟨⟨_,rfl, .inl rfl⟩,⟨_,rfl, .inr rfl⟩,trivial⟩ rfl rfl) | exact aM (E:=2) rfl (by as_aux_lemma=>kernel_rfl) rfl rfl rfl | exact aL (E:=2) rfl (by as_aux_lemma=>kernel_rfl) rfl rfl rfl rfl);apply ae rfl;(first | (apply ar 142;exact au hE2 (by as_aux_lemma=>kernel_rfl) rfl rfl ⟨rfl,rfl,trivial⟩ ⟨⟨_,rfl, .inl rfl⟩,⟨_,rfl, .inr rfl⟩,trivial⟩ rfl rfl) | exact aM (E:=2) rfl (by as_aux_lemma=>kernel_rfl) rfl rfl rfl | exact aL (E:=2) rfl (by as_aux_lemma=>kernel_rfl) rfl rfl rfl rfl);apply ae rfl;(exact ai rfl rfl);refine aq ?_;refine an ?_)
 refine ax rfl (fun e=>by cases e) (fun _=> ?_)
 (refine aj ?_;refine ag ?_;apply ae rfl;(exact ah rfl rfl);apply ae rfl;(first | (apply ar 142;exact au hE3 (by as_aux_lemma=>kernel_rfl) rfl rfl ⟨rfl,rfl,trivial⟩ ⟨⟨_,rfl, .inl rfl⟩,⟨_,rfl, .inr rfl⟩,trivial⟩ rfl rfl) | exact aM (E:=2) rfl (by as_aux_lemma=>kernel_rfl) rfl rfl rfl | exact aL (E:=2) rfl (by as_aux_lemma=>kernel_rfl) rfl rfl rfl rfl);apply ae rfl;(first | (apply ar 142;exact au hE3 (by as_aux_lemma=>kernel_rfl) rfl rfl ⟨rfl,rfl,trivial⟩ ⟨⟨_,rfl, .inl rfl⟩,⟨_,rfl, .inr rfl⟩,trivial⟩ rfl rfl) | exact aM (E:=2) rfl (by as_aux_lemma=>kernel_rfl) rfl rfl rfl | exact aL (E:=2) rfl (by as_aux_lemma=>kernel_rfl) rfl rfl rfl rfl);apply ae rfl;(exact ai rfl rfl);refine aq ?_;refine an ?_)
 refine ax rfl (fun e=>by cases e) (fun _=> ?_)
 (refine aG ?_;refine aI ?_;refine an ?_;refine aj ?_;refine aj ?_;refine ag ?_;apply ae rfl;(exact ah rfl rfl);apply ae rfl;(exact aB rfl rfl rfl rfl);refine aq ?_;refine an ?_)
 refine ax rfl (fun e=> ?_) (fun _=> ?_)
 ·exfalso;simp at e;omega
 (refine aG ?_;refine an ?_;refine aj ?_;refine ag ?_;apply ae rfl;(exact ah rfl rfl);apply ae rfl;(exact ai rfl rfl);refine aq ?_;refine an ?_;refine aj ?_;refine aj ?_;refine ag ?_;apply ae rfl;(exact ah rfl rfl);apply ae rfl;(first | exact bj (j:=0) rfl rfl rfl rfl rfl (by as_aux_lemma=>kernel_rfl) hrow rfl (by omega) hilm | exact aQ rfl (by as_aux_lemma=>kernel_rfl) rfl rfl rfl hrow hgl);apply ae rfl;(first | exact bj (j:=0) rfl rfl rfl rfl rfl (by as_aux_lemma=>kernel_rfl) hrow rfl (by omega) hilm | exact aQ rfl (by as_aux_lemma=>kernel_rfl) rfl rfl rfl hrow hgl);apply ae rfl;(exact aB rfl rfl rfl rfl);refine aq ?_;refine an ?_)
 refine ax rfl (fun e=> ?_) (fun e=> ?_)
 rotate_left
 ·exfalso;simp at e;exact hA e
 (refine ag ?_;apply ae rfl;(exact ah rfl rfl);apply ae rfl;(apply ar 143;exact bl hTn (by as_aux_lemma=>kernel_rfl) rfl rfl ⟨rfl,trivial⟩ ⟨⟨_,rfl, .inl rfl⟩,trivial⟩ rfl rfl rfl);apply ae rfl;(exact ai rfl rfl);refine aq ?_;refine an ?_;refine aj ?_;refine aj ?_;refine ag ?_;apply ae rfl;(exact ai rfl rfl);refine aq ?_;refine an ?_;refine aD ?_)
 refine bx (fun k:Nat=>St.of [(3,vv (I6 ((m:Int) + 1))),(4,o1 (.sl 52 0 m)),(5,vv (I6 k))] [(52,bI labs.reverse)]) (fun k=>k≤m - 1∧∀q,q < k→aC (ends labs) q=3) (fun k=>m - k) 0 ⟨Nat.zero_le _,fun q h=>absurd h (by omega)⟩ (Wk.of ⟨rfl,rfl,rfl,trivial⟩ ⟨rfl,trivial⟩ trivial) ?_
 rintro k ⟨hk,hq3⟩
 have hkm:k < m:=by omega
 have hgk:(aH labs.reverse)[k]? =some (I6 (aC (ends labs) k)):=by rw [hE];exact aR (by first | omega | (rw [List.length_reverse];omega))
 have hwk:IntKind.i64.wrap ((k:Int) + 1)=(k:Int) + 1:=IntWalk.i64_in _ (by omega)
 (refine aj ?_;refine aj ?_;refine ag ?_;apply ae rfl;(exact ah rfl rfl);apply ae rfl;(exact aJ rfl rfl rfl hwk);apply ae rfl;(exact ah rfl rfl);apply ae rfl;(exact br rfl rfl rfl (by as_aux_lemma=>kernel_rfl));apply ae rfl;(exact aB rfl rfl rfl rfl);refine aq ?_;refine an ?_)
 refine bM rfl (fun hlt=> ?_) (fun hlt=> ?_)
 ·(refine aG ?_;refine an ?_;refine aj ?_;refine aD ?_;refine aj ?_;refine ag ?_;apply ae rfl;(exact ah rfl rfl);apply ae rfl;(exact ah rfl rfl);apply ae rfl;(first | exact aS (j:=k) rfl rfl rfl rfl rfl (by as_aux_lemma=>kernel_rfl) rfl hkm hilr | exact aV rfl (by as_aux_lemma=>kernel_rfl) rfl rfl rfl hgk);apply ae rfl;(first | exact aS (j:=k) rfl rfl rfl rfl rfl (by as_aux_lemma=>kernel_rfl) rfl hkm hilr | exact aV rfl (by as_aux_lemma=>kernel_rfl) rfl rfl rfl hgk);apply ae rfl;(exact aB rfl rfl rfl rfl);refine aq ?_;refine an ?_)
  refine ax rfl (fun e=> ?_) (fun e=> ?_)
  ·exfalso
   have:=fE ht (k:=k) (by omega)
   simp at e
   exact e this
  ·have e:aC (ends labs) k=3:=by simpa using e
   (refine aG ?_;refine aI ?_;refine an ?_;refine ag ?_;apply ae rfl;(exact ah rfl rfl);apply ae rfl;(exact aJ rfl rfl rfl hwk);apply ae rfl;(exact ai rfl rfl);refine aq ?_)
   exact aX (k + 1) ⟨by omega,fun q h=>by
    by_cases e':q=k
    ·subst e';exact e
    ·exact hq3 q (by omega)⟩ (by omega) (Wk.of ⟨rfl,rfl,rfl,trivial⟩ ⟨rfl,trivial⟩ trivial)
 ·have hgm:(aH labs.reverse)[m - 1]? =some (I6 (aC (ends labs) (m - 1))):=by rw [hE];exact aR (by first | omega | (rw [List.length_reverse];omega))
  have hm1:(m:Int) - 1=((m - 1:Nat):Int):=by omega
  have hws:IntKind.i64.wrap ((m:Int) - 1)=(m:Int) - 1:=IntWalk.i64_in _ (by omega)
  rw [hm] at hlast
  (refine a6 ?_;refine aE ?_;refine aE ?_;refine aP ?_;refine an ?_;refine aj ?_;refine ag ?_;apply ae rfl;(exact dr (E:=2) (k:=1) rfl (by as_aux_lemma=>kernel_rfl));apply ae rfl;(exact ai rfl rfl);refine aq ?_;refine an ?_;refine aj ?_;refine aj ?_;refine ag ?_;apply ae rfl;(exact ah rfl rfl);apply ae rfl;(exact ah rfl rfl);apply ae rfl;(exact br rfl rfl rfl (by as_aux_lemma=>kernel_rfl));apply ae rfl;(first | exact bf rfl rfl rfl hws | exact aS (j:=m - 1) rfl rfl rfl rfl rfl (by as_aux_lemma=>kernel_rfl) hm1 (by omega) hilr | exact aV rfl (by as_aux_lemma=>kernel_rfl) rfl rfl rfl hgm);apply ae rfl;(first | exact bf rfl rfl rfl hws | exact aS (j:=m - 1) rfl rfl rfl rfl rfl (by as_aux_lemma=>kernel_rfl) hm1 (by omega) hilr | exact aV rfl (by as_aux_lemma=>kernel_rfl) rfl rfl rfl hgm);apply ae rfl;(first | exact bf rfl rfl rfl hws | exact aS (j:=m - 1) rfl rfl rfl rfl rfl (by as_aux_lemma=>kernel_rfl) hm1 (by omega) hilr | exact aV rfl (by as_aux_lemma=>kernel_rfl) rfl rfl rfl hgm);refine aq ?_;refine an ?_;refine aD ?_;refine aj ?_;refine ag ?_;apply ae rfl;(exact aB rfl rfl rfl rfl);apply ae rfl;(exact ai rfl rfl);refine aq ?_;refine an ?_)
  refine ax rfl (fun _=> ?_) (fun e=> ?_)
  rotate_left
  ·exfalso;simp at e;exact e hlast
  (refine aj ?_;refine ag ?_;apply ae rfl;(exact ai rfl rfl);refine aq ?_;refine an ?_;refine aD ?_)
  have hw2:IntKind.i64.wrap ((m:Int) + 1 + 1)=(m:Int) + 1 + 1:=IntWalk.i64_in _ (by omega)
  refine bx (fun k:Nat=>St.of [(3,vv (I6 ((m:Int) + 1))),(6,o1 (.sl 65 0 k)),(7,vv (I6 (2 + 1 * (k:Int))))] [(65,bI (eD k 1))]) (fun k=>k≤m + 1) (fun k=>m + 1 - k) 0 (Nat.zero_le _) (Wk.of ⟨rfl,rfl,rfl,trivial⟩ ⟨rfl,trivial⟩ trivial) ?_
  rintro k hk
  have hwa:IntKind.i64.wrap (2 + 1 * (k:Int) + 1)=2 + 1 * ((k + 1:Nat):Int):=(IntWalk.i64_in _ (by omega)).trans (by omega)
  (refine aj ?_;refine aj ?_;refine ag ?_;apply ae rfl;(exact ah rfl rfl);apply ae rfl;(exact ah rfl rfl);apply ae rfl;(exact aJ rfl rfl rfl hw2);apply ae rfl;(exact aB rfl rfl rfl rfl);refine aq ?_;refine an ?_)
  refine bM rfl (fun hlt=> ?_) (fun hlt=> ?_)
  ·(refine aG ?_;refine an ?_;refine aj ?_;refine aD ?_;refine ag ?_;apply ae rfl;(exact ah rfl rfl);apply ae rfl;(exact ah rfl rfl);apply ae rfl;(exact cJ (E:=2) rfl (by as_aux_lemma=>kernel_rfl) rfl);apply ae rfl;(first | exact aJ rfl rfl rfl hwa | exact bp rfl (by as_aux_lemma=>kernel_rfl) rfl rfl rfl (cF _ _) rfl rfl (by omega));apply ae rfl;(exact ai rfl rfl);refine aq ?_;refine aI ?_;refine an ?_;refine ag ?_;apply ae rfl;(exact ah rfl rfl);apply ae rfl;(first | exact aJ rfl rfl rfl hwa | exact bp rfl (by as_aux_lemma=>kernel_rfl) rfl rfl rfl (cF _ _) rfl rfl (by omega));apply ae rfl;(exact ai rfl rfl);refine aq ?_)
   exact aX (k + 1) (by omega) (by omega) (Wk.of ⟨rfl,rfl,rfl,trivial⟩ ⟨by rw [fC];rfl,trivial⟩ trivial)
  ·obtain rfl:k=m + 1:=by omega
   (refine a6 ?_;refine aE ?_;refine aE ?_;refine aP ?_;refine aI ?_;refine an ?_;refine aj ?_;refine ag ?_;apply ae rfl;(exact ah rfl rfl);apply ae rfl;(exact ai rfl rfl);refine aq ?_;refine an ?_;refine aK ?_)
   exact aW (.inl rfl) rfl (.tmp rfl) ⟨rfl,trivial⟩ trivial
set_option maxRecDepth 100000 in
set_option maxHeartbeats 2000000 in
theorem rf (zss:List (List Int)) (i m:Nat) (labs:List Int) (hi:i < zss.length) (hlb:cD zss i=labs) (hm:labs.length=m) (hm4:m≤4) (h0:0 < m) (hq:¬(m=1∧0 < aC labs 0)) (e1:bA labs [3,5]=false) (e2:bA labs [3,3,5]=false) (e3:bA labs [3,4,3]=false) (h2:2≤m) (hA:aC labs 0≠3) (ht:ef labs=true) (hlast:aC (ends labs) (labs.length - 1)=4):
  FC Tryz.prog 116 [(1000,bu zss)] [o1 (.esl 1000 i 0 m)] [(65,bI (eD (m + 1) 2))] (o1 (.sl 65 0 (m + 1))) []:=by
 have hrow:(cM zss)[i]? =some (aH labs):=by rw [←hlb];exact bV hi
 have hilm:m≤(aH labs).length:=by rw [aO,hm];exact Nat.le_refl _
 have hE1:=(bw zss i m 2 labs [3,5] hi hlb hm rfl (by omega) (by omega)).nm [(1000,1000),(1001,31)] (by kernel_rfl)
 have hE1:FC Tryz.prog 142 [(1000,bu zss),(31,cf [3,5])] [o1 (.esl 1000 i 0 m),o1 (.sl 31 0 2)] [] (vv (.bool (bA labs [3,5]))) []:=hE1
 rw [e1] at hE1
 have hE2:=(bw zss i m 3 labs [3,3,5] hi hlb hm rfl (by omega) (by omega)).nm [(1000,1000),(1001,36)] (by kernel_rfl)
 have hE2:FC Tryz.prog 142 [(1000,bu zss),(36,cf [3,3,5])] [o1 (.esl 1000 i 0 m),o1 (.sl 36 0 3)] [] (vv (.bool (bA labs [3,3,5]))) []:=hE2
 rw [e2] at hE2
 have hE3:=(bw zss i m 3 labs [3,4,3] hi hlb hm rfl (by omega) (by omega)).nm [(1000,1000),(1001,41)] (by kernel_rfl)
 have hE3:FC Tryz.prog 142 [(1000,bu zss),(41,cf [3,4,3])] [o1 (.esl 1000 i 0 m),o1 (.sl 41 0 3)] [] (vv (.bool (bA labs [3,4,3]))) []:=hE3
 rw [e3] at hE3
 refine a5 (nt:=97) Tryz.func116 rfl rfl (by simp) fun w0 ω0=> ?_
 have hgl:(aH labs)[0]? =some (I6 (aC labs 0)):=aR (by omega)
 have hE:ends labs=labs.reverse:=by unfold ends;rw [if_neg hA]
 have hrl:labs.reverse.length=m:=by simpa using hm
 have hilr:m≤(aH labs.reverse).length:=by rw [aO,hrl];exact Nat.le_refl _
 have hTn:=fR 52 zss i hi (by rw [hlb];omega)
 rw [hlb,hm] at hTn
 have hw1:IntKind.i64.wrap ((m:Int) + 1)=(m:Int) + 1:=IntWalk.i64_in _ (by omega)
 (refine aj ?_;refine ag ?_;apply ae rfl;(exact ai rfl rfl);refine aq ?_;refine an ?_;refine aj ?_;refine ag ?_;apply ae rfl;(exact ah rfl rfl);apply ae rfl;(exact br rfl rfl rfl (by as_aux_lemma=>kernel_rfl));apply ae rfl;(exact aJ rfl rfl rfl hw1);apply ae rfl;(exact ai rfl rfl);refine aq ?_;refine an ?_;refine aj ?_;refine aD ?_;refine aj ?_;refine ag ?_;apply ae rfl;(exact ah rfl rfl);apply ae rfl;(exact aB rfl rfl rfl rfl);apply ae rfl;(exact ai rfl rfl);refine aq ?_;refine an ?_)
 refine ax rfl (fun e=> ?_) (fun _=> ?_)
 ·exfalso;simp at e;omega
 (repeat (first | refine aj ?_ | refine an ?_ | refine aG ?_ | refine aD ?_ | refine aI ?_ | refine a6 ?_ | refine aP ?_ | refine bP rfl ?_ | refine aE ?_))
 refine cq (St.of [(0,o1 (.esl 1000 i 0 m)),(3,vv (I6 ((m:Int) + 1))),(16,vv (.bool false))] [(1000,bu zss)]) ?_ ?_
 ·refine ag ?_
  (apply ae rfl;(exact ah rfl rfl);apply ae rfl;(exact aB rfl rfl rfl rfl);apply ae rfl;(exact ah rfl rfl))
  refine bH 19 rfl (fun e1=> ?_) (fun e1=> ?_)
  ·have e1:m=1:=by simp at e1;omega
   have hg2:¬aC labs 0 > 0:=fun h=>hq ⟨e1,h⟩
   have hgl:(aH labs)[0]? =some (I6 (aC labs 0)):=aR (by omega)
   have hbf:df .i64 .gtr (aC labs 0) 0=some (.bool false):=by simp [df];omega
   (apply aw rfl rfl rfl;(exact ah rfl rfl);apply aw rfl rfl rfl;(first | exact aB rfl rfl rfl hbf | exact bj (j:=0) rfl rfl rfl rfl rfl (by as_aux_lemma=>kernel_rfl) hrow rfl (by omega) hilm | exact aQ rfl (by as_aux_lemma=>kernel_rfl) rfl rfl rfl hrow hgl);apply aw rfl rfl rfl;(first | exact aB rfl rfl rfl hbf | exact bj (j:=0) rfl rfl rfl rfl rfl (by as_aux_lemma=>kernel_rfl) hrow rfl (by omega) hilm | exact aQ rfl (by as_aux_lemma=>kernel_rfl) rfl rfl rfl hrow hgl);apply aw rfl rfl rfl;(first | exact aB rfl rfl rfl hbf | exact bj (j:=0) rfl rfl rfl rfl rfl (by as_aux_lemma=>kernel_rfl) hrow rfl (by omega) hilm | exact aQ rfl (by as_aux_lemma=>kernel_rfl) rfl rfl rfl hrow hgl);apply ae rfl;(exact aY rfl rfl rfl);apply ae rfl;(exact ai rfl rfl);refine aq ?_)
   exact aU (Wk.of ⟨rfl,rfl,rfl,trivial⟩ ⟨rfl,trivial⟩ trivial)
  ·(apply aA rfl rfl rfl rfl rfl;apply aA rfl rfl rfl rfl rfl;apply aA rfl rfl rfl rfl rfl;apply aA rfl rfl rfl rfl rfl;apply ae rfl;(exact a7 rfl rfl rfl);apply ae rfl;(exact ai rfl rfl);refine aq ?_)
   exact aU (Wk.of ⟨rfl,rfl,rfl,trivial⟩ ⟨rfl,trivial⟩ trivial)
 (refine an ?_)
 refine ax rfl (fun e=>by cases e) (fun _=> ?_)
 (refine aj ?_;refine ag ?_;apply ae rfl;(exact ah rfl rfl);apply ae rfl;(exact cr (E:=2) rfl (by as_aux_lemma=>kernel_rfl) rfl rfl);apply ae rfl;(first | (apply ar 142;exact au hE1 (by as_aux_lemma=>kernel_rfl) rfl rfl ⟨rfl,rfl,trivial⟩ ⟨⟨_,rfl, .inl rfl⟩,⟨_,rfl, .inr rfl⟩,trivial⟩ rfl rfl) | exact aM (E:=2) rfl (by as_aux_lemma=>kernel_rfl) rfl rfl rfl | exact aL (E:=2) rfl (by as_aux_lemma=>kernel_rfl) rfl rfl rfl rfl);apply ae rfl;(exact ai rfl rfl);refine aq ?_;refine an ?_)
 refine ax rfl (fun e=>by cases e) (fun _=> ?_)
 (refine aj ?_;refine ag ?_;apply ae rfl;(exact ah rfl rfl);apply ae rfl;(first | (apply ar 142;exact au hE2 (by as_aux_lemma=>kernel_rfl) rfl rfl ⟨rfl,rfl,trivial⟩ ⟨⟨_,rfl, .inl rfl⟩,⟨_,rfl, .inr rfl⟩,trivial⟩ rfl rfl) | exact aM (E:=2) rfl (by as_aux_lemma=>kernel_rfl) rfl rfl rfl | exact aL (E:=2) rfl (by as_aux_lemma=>kernel_rfl) rfl rfl rfl rfl);apply ae rfl;(first | (apply ar 142;exact au hE2 (by as_aux_lemma=>kernel_rfl) rfl rfl ⟨rfl,rfl,trivial⟩ ⟨⟨_,rfl, .inl rfl⟩,⟨_,rfl, .inr rfl⟩,trivial⟩ rfl rfl) | exact aM (E:=2) rfl (by as_aux_lemma=>kernel_rfl) rfl rfl rfl | exact aL (E:=2) rfl (by as_aux_lemma=>kernel_rfl) rfl rfl rfl rfl);apply ae rfl;(exact ai rfl rfl);refine aq ?_;refine an ?_)
 refine ax rfl (fun e=>by cases e) (fun _=> ?_)
 (refine aj ?_;refine ag ?_;apply ae rfl;(exact ah rfl rfl);apply ae rfl;(first | (apply ar 142;exact au hE3 (by as_aux_lemma=>kernel_rfl) rfl rfl ⟨rfl,rfl,trivial⟩ ⟨⟨_,rfl, .inl rfl⟩,⟨_,rfl, .inr rfl⟩,trivial⟩ rfl rfl) | exact aM (E:=2) rfl (by as_aux_lemma=>kernel_rfl) rfl rfl rfl | exact aL (E:=2) rfl (by as_aux_lemma=>kernel_rfl) rfl rfl rfl rfl);apply ae rfl;(first | (apply ar 142;exact au hE3 (by as_aux_lemma=>kernel_rfl) rfl rfl ⟨rfl,rfl,trivial⟩ ⟨⟨_,rfl, .inl rfl⟩,⟨_,rfl, .inr rfl⟩,trivial⟩ rfl rfl) | exact aM (E:=2) rfl (by as_aux_lemma=>kernel_rfl) rfl rfl rfl | exact aL (E:=2) rfl (by as_aux_lemma=>kernel_rfl) rfl rfl rfl rfl);apply ae rfl;(exact ai rfl rfl);refine aq ?_;refine an ?_)
 refine ax rfl (fun e=>by cases e) (fun _=> ?_)
 (refine aG ?_;refine aI ?_;refine an ?_;refine aj ?_;refine aj ?_;refine ag ?_;apply ae rfl;(exact ah rfl rfl);apply ae rfl;(exact aB rfl rfl rfl rfl);refine aq ?_;refine an ?_)
 refine ax rfl (fun e=> ?_) (fun _=> ?_)
 ·exfalso;simp at e;omega
 (refine aG ?_;refine an ?_;refine aj ?_;refine ag ?_;apply ae rfl;(exact ah rfl rfl);apply ae rfl;(exact ai rfl rfl);refine aq ?_;refine an ?_;refine aj ?_;refine aj ?_;refine ag ?_;apply ae rfl;(exact ah rfl rfl);apply ae rfl;(first | exact bj (j:=0) rfl rfl rfl rfl rfl (by as_aux_lemma=>kernel_rfl) hrow rfl (by omega) hilm | exact aQ rfl (by as_aux_lemma=>kernel_rfl) rfl rfl rfl hrow hgl);apply ae rfl;(first | exact bj (j:=0) rfl rfl rfl rfl rfl (by as_aux_lemma=>kernel_rfl) hrow rfl (by omega) hilm | exact aQ rfl (by as_aux_lemma=>kernel_rfl) rfl rfl rfl hrow hgl);apply ae rfl;(exact aB rfl rfl rfl rfl);refine aq ?_;refine an ?_)
 refine ax rfl (fun e=> ?_) (fun e=> ?_)
 rotate_left
 ·exfalso;simp at e;exact hA e
 (refine ag ?_;apply ae rfl;(exact ah rfl rfl);apply ae rfl;(apply ar 143;exact bl hTn (by as_aux_lemma=>kernel_rfl) rfl rfl ⟨rfl,trivial⟩ ⟨⟨_,rfl, .inl rfl⟩,trivial⟩ rfl rfl rfl);apply ae rfl;(exact ai rfl rfl);refine aq ?_;refine an ?_;refine aj ?_;refine aj ?_;refine ag ?_;apply ae rfl;(exact ai rfl rfl);refine aq ?_;refine an ?_;refine aD ?_)
 refine bx (fun k:Nat=>St.of [(3,vv (I6 ((m:Int) + 1))),(4,o1 (.sl 52 0 m)),(5,vv (I6 k))] [(52,bI labs.reverse)]) (fun k=>k≤m - 1∧∀q,q < k→aC (ends labs) q=3) (fun k=>m - k) 0 ⟨Nat.zero_le _,fun q h=>absurd h (by omega)⟩ (Wk.of ⟨rfl,rfl,rfl,trivial⟩ ⟨rfl,trivial⟩ trivial) ?_
 rintro k ⟨hk,hq3⟩
 have hkm:k < m:=by omega
 have hgk:(aH labs.reverse)[k]? =some (I6 (aC (ends labs) k)):=by rw [hE];exact aR (by first | omega | (rw [List.length_reverse];omega))
 have hwk:IntKind.i64.wrap ((k:Int) + 1)=(k:Int) + 1:=IntWalk.i64_in _ (by omega)
 (refine aj ?_;refine aj ?_;refine ag ?_;apply ae rfl;(exact ah rfl rfl);apply ae rfl;(exact aJ rfl rfl rfl hwk);apply ae rfl;(exact ah rfl rfl);apply ae rfl;(exact br rfl rfl rfl (by as_aux_lemma=>kernel_rfl));apply ae rfl;(exact aB rfl rfl rfl rfl);refine aq ?_;refine an ?_)
 refine bM rfl (fun hlt=> ?_) (fun hlt=> ?_)
 ·(refine aG ?_;refine an ?_;refine aj ?_;refine aD ?_;refine aj ?_;refine ag ?_;apply ae rfl;(exact ah rfl rfl);apply ae rfl;(exact ah rfl rfl);apply ae rfl;(first | exact aS (j:=k) rfl rfl rfl rfl rfl (by as_aux_lemma=>kernel_rfl) rfl hkm hilr | exact aV rfl (by as_aux_lemma=>kernel_rfl) rfl rfl rfl hgk);apply ae rfl;(first | exact aS (j:=k) rfl rfl rfl rfl rfl (by as_aux_lemma=>kernel_rfl) rfl hkm hilr | exact aV rfl (by as_aux_lemma=>kernel_rfl) rfl rfl rfl hgk);apply ae rfl;(exact aB rfl rfl rfl rfl);refine aq ?_;refine an ?_)
  refine ax rfl (fun e=> ?_) (fun e=> ?_)
  ·exfalso
   have:=fE ht (k:=k) (by omega)
   simp at e
   exact e this
  ·have e:aC (ends labs) k=3:=by simpa using e
   (refine aG ?_;refine aI ?_;refine an ?_;refine ag ?_;apply ae rfl;(exact ah rfl rfl);apply ae rfl;(exact aJ rfl rfl rfl hwk);apply ae rfl;(exact ai rfl rfl);refine aq ?_)
   exact aX (k + 1) ⟨by omega,fun q h=>by
    by_cases e':q=k
    ·subst e';exact e
    ·exact hq3 q (by omega)⟩ (by omega) (Wk.of ⟨rfl,rfl,rfl,trivial⟩ ⟨rfl,trivial⟩ trivial)
 ·have hgm:(aH labs.reverse)[m - 1]? =some (I6 (aC (ends labs) (m - 1))):=by rw [hE];exact aR (by first | omega | (rw [List.length_reverse];omega))
  have hm1:(m:Int) - 1=((m - 1:Nat):Int):=by omega
  have hws:IntKind.i64.wrap ((m:Int) - 1)=(m:Int) - 1:=IntWalk.i64_in _ (by omega)
  rw [hm] at hlast
  (refine a6 ?_;refine aE ?_;refine aE ?_;refine aP ?_;refine an ?_;refine aj ?_;refine ag ?_;apply ae rfl;(exact dr (E:=2) (k:=1) rfl (by as_aux_lemma=>kernel_rfl));apply ae rfl;(exact ai rfl rfl);refine aq ?_;refine an ?_;refine aj ?_;refine aj ?_;refine ag ?_;apply ae rfl;(exact ah rfl rfl);apply ae rfl;(exact ah rfl rfl);apply ae rfl;(exact br rfl rfl rfl (by as_aux_lemma=>kernel_rfl));apply ae rfl;(first | exact bf rfl rfl rfl hws | exact aS (j:=m - 1) rfl rfl rfl rfl rfl (by as_aux_lemma=>kernel_rfl) hm1 (by omega) hilr | exact aV rfl (by as_aux_lemma=>kernel_rfl) rfl rfl rfl hgm);apply ae rfl;(first | exact bf rfl rfl rfl hws | exact aS (j:=m - 1) rfl rfl rfl rfl rfl (by as_aux_lemma=>kernel_rfl) hm1 (by omega) hilr | exact aV rfl (by as_aux_lemma=>kernel_rfl) rfl rfl rfl hgm);apply ae rfl;(first | exact bf rfl rfl rfl hws | exact aS (j:=m - 1) rfl rfl rfl rfl rfl (by as_aux_lemma=>kernel_rfl) hm1 (by omega) hilr | exact aV rfl (by as_aux_lemma=>kernel_rfl) rfl rfl rfl hgm);refine aq ?_;refine an ?_;refine aD ?_;refine aj ?_;refine ag ?_;apply ae rfl;(exact aB rfl rfl rfl rfl);apply ae rfl;(exact ai rfl rfl);refine aq ?_;refine an ?_)
  refine ax rfl (fun e=> ?_) (fun _=> ?_)
  ·exfalso;simp at e;omega
  (refine aj ?_;refine ag ?_;apply ae rfl;(exact aB rfl rfl rfl rfl);apply ae rfl;(exact ai rfl rfl);refine aq ?_;refine an ?_)
  refine ax rfl (fun _=> ?_) (fun e=> ?_)
  rotate_left
  ·exfalso;simp at e;exact e hlast
  (refine aj ?_;refine ag ?_;apply ae rfl;(exact ai rfl rfl);refine aq ?_;refine an ?_;refine aD ?_)
  have hw2:IntKind.i64.wrap (2 * ((m:Int) + 1))=2 * ((m:Int) + 1):=IntWalk.i64_in _ (by omega)
  refine bx (fun k:Nat=>St.of [(3,vv (I6 ((m:Int) + 1))),(6,o1 (.sl 65 0 k)),(8,vv (I6 (2 + 2 * (k:Int))))] [(65,bI (eD k 2))]) (fun k=>k≤m + 1) (fun k=>m + 1 - k) 0 (Nat.zero_le _) (Wk.of ⟨rfl,rfl,rfl,trivial⟩ ⟨rfl,trivial⟩ trivial) ?_
  rintro k hk
  have hwa:IntKind.i64.wrap (2 + 2 * (k:Int) + 2)=2 + 2 * ((k + 1:Nat):Int):=(IntWalk.i64_in _ (by omega)).trans (by omega)
  (refine aj ?_;refine aj ?_;refine ag ?_;apply ae rfl;(exact ah rfl rfl);apply ae rfl;(exact ah rfl rfl);apply ae rfl;(exact cV rfl rfl rfl hw2);apply ae rfl;(exact aB rfl rfl rfl rfl);refine aq ?_;refine an ?_)
  refine bM rfl (fun hlt=> ?_) (fun hlt=> ?_)
  ·(refine aG ?_;refine an ?_;refine aj ?_;refine aD ?_;refine ag ?_;apply ae rfl;(exact ah rfl rfl);apply ae rfl;(exact ah rfl rfl);apply ae rfl;(exact cJ (E:=2) rfl (by as_aux_lemma=>kernel_rfl) rfl);apply ae rfl;(first | exact aJ rfl rfl rfl hwa | exact bp rfl (by as_aux_lemma=>kernel_rfl) rfl rfl rfl (cF _ _) rfl rfl (by omega));apply ae rfl;(exact ai rfl rfl);refine aq ?_;refine aI ?_;refine an ?_;refine ag ?_;apply ae rfl;(exact ah rfl rfl);apply ae rfl;(first | exact aJ rfl rfl rfl hwa | exact bp rfl (by as_aux_lemma=>kernel_rfl) rfl rfl rfl (cF _ _) rfl rfl (by omega));apply ae rfl;(exact ai rfl rfl);refine aq ?_)
   exact aX (k + 1) (by omega) (by omega) (Wk.of ⟨rfl,rfl,rfl,trivial⟩ ⟨by rw [fC];rfl,trivial⟩ trivial)
  ·obtain rfl:k=m + 1:=by omega
   (refine a6 ?_;refine aE ?_;refine aE ?_;refine aP ?_;refine aI ?_;refine an ?_;refine aj ?_;refine ag ?_;apply ae rfl;(exact ah rfl rfl);apply ae rfl;(exact ai rfl rfl);refine aq ?_;refine an ?_;refine aK ?_)
   exact aW (.inl rfl) rfl (.tmp rfl) ⟨rfl,trivial⟩ trivial
set_option maxRecDepth 100000 in
set_option maxHeartbeats 2000000 in
theorem rk (zss:List (List Int)) (i m:Nat) (labs:List Int) (hi:i < zss.length) (hlb:cD zss i=labs) (hm:labs.length=m) (hm4:m≤4) (h0:0 < m) (hq:¬(m=1∧0 < aC labs 0)) (e1:bA labs [3,5]=false) (e2:bA labs [3,3,5]=false) (e3:bA labs [3,4,3]=false) (h2:2≤m) (hA:aC labs 0≠3) (ht:ef labs=true) (hlast:aC (ends labs) (labs.length - 1)≠3∧aC (ends labs) (labs.length - 1)≠4):
  FC Tryz.prog 116 [(1000,bu zss)] [o1 (.esl 1000 i 0 m)] [(65,bI [])] (o1 (.sl 65 0 0)) []:=by
 have hrow:(cM zss)[i]? =some (aH labs):=by rw [←hlb];exact bV hi
 have hilm:m≤(aH labs).length:=by rw [aO,hm];exact Nat.le_refl _
 have hE1:=(bw zss i m 2 labs [3,5] hi hlb hm rfl (by omega) (by omega)).nm [(1000,1000),(1001,31)] (by kernel_rfl)
 have hE1:FC Tryz.prog 142 [(1000,bu zss),(31,cf [3,5])] [o1 (.esl 1000 i 0 m),o1 (.sl 31 0 2)] [] (vv (.bool (bA labs [3,5]))) []:=hE1
 rw [e1] at hE1
 have hE2:=(bw zss i m 3 labs [3,3,5] hi hlb hm rfl (by omega) (by omega)).nm [(1000,1000),(1001,36)] (by kernel_rfl)
 have hE2:FC Tryz.prog 142 [(1000,bu zss),(36,cf [3,3,5])] [o1 (.esl 1000 i 0 m),o1 (.sl 36 0 3)] [] (vv (.bool (bA labs [3,3,5]))) []:=hE2
 rw [e2] at hE2
 have hE3:=(bw zss i m 3 labs [3,4,3] hi hlb hm rfl (by omega) (by omega)).nm [(1000,1000),(1001,41)] (by kernel_rfl)
 have hE3:FC Tryz.prog 142 [(1000,bu zss),(41,cf [3,4,3])] [o1 (.esl 1000 i 0 m),o1 (.sl 41 0 3)] [] (vv (.bool (bA labs [3,4,3]))) []:=hE3
 rw [e3] at hE3
 refine a5 (nt:=97) Tryz.func116 rfl rfl (by simp) fun w0 ω0=> ?_
 have hgl:(aH labs)[0]? =some (I6 (aC labs 0)):=aR (by omega)
 have hE:ends labs=labs.reverse:=by unfold ends;rw [if_neg hA]
 have hrl:labs.reverse.length=m:=by simpa using hm
 have hilr:m≤(aH labs.reverse).length:=by rw [aO,hrl];exact Nat.le_refl _
 have hTn:=fR 52 zss i hi (by rw [hlb];omega)
 rw [hlb,hm] at hTn
 have hw1:IntKind.i64.wrap ((m:Int) + 1)=(m:Int) + 1:=IntWalk.i64_in _ (by omega)
 (refine aj ?_;refine ag ?_;apply ae rfl;(exact ai rfl rfl);refine aq ?_;refine an ?_;refine aj ?_;refine ag ?_;apply ae rfl;(exact ah rfl rfl);apply ae rfl;(exact br rfl rfl rfl (by as_aux_lemma=>kernel_rfl));apply ae rfl;(exact aJ rfl rfl rfl hw1);apply ae rfl;(exact ai rfl rfl);refine aq ?_;refine an ?_;refine aj ?_;refine aD ?_;refine aj ?_;refine ag ?_;apply ae rfl;(exact ah rfl rfl);apply ae rfl;(exact aB rfl rfl rfl rfl);apply ae rfl;(exact ai rfl rfl);refine aq ?_;refine an ?_)
 refine ax rfl (fun e=> ?_) (fun _=> ?_)
 ·exfalso;simp at e;omega
 (repeat (first | refine aj ?_ | refine an ?_ | refine aG ?_ | refine aD ?_ | refine aI ?_ | refine a6 ?_ | refine aP ?_ | refine bP rfl ?_ | refine aE ?_))
 refine cq (St.of [(0,o1 (.esl 1000 i 0 m)),(3,vv (I6 ((m:Int) + 1))),(16,vv (.bool false))] [(1000,bu zss)]) ?_ ?_
 ·refine ag ?_
  (apply ae rfl;(exact ah rfl rfl);apply ae rfl;(exact aB rfl rfl rfl rfl);apply ae rfl;(exact ah rfl rfl))
  refine bH 19 rfl (fun e1=> ?_) (fun e1=> ?_)
  ·have e1:m=1:=by simp at e1;omega
   have hg2:¬aC labs 0 > 0:=fun h=>hq ⟨e1,h⟩
   have hgl:(aH labs)[0]? =some (I6 (aC labs 0)):=aR (by omega)
   have hbf:df .i64 .gtr (aC labs 0) 0=some (.bool false):=by simp [df];omega
   (apply aw rfl rfl rfl;(exact ah rfl rfl);apply aw rfl rfl rfl;(first | exact aB rfl rfl rfl hbf | exact bj (j:=0) rfl rfl rfl rfl rfl (by as_aux_lemma=>kernel_rfl) hrow rfl (by omega) hilm | exact aQ rfl (by as_aux_lemma=>kernel_rfl) rfl rfl rfl hrow hgl);apply aw rfl rfl rfl;(first | exact aB rfl rfl rfl hbf | exact bj (j:=0) rfl rfl rfl rfl rfl (by as_aux_lemma=>kernel_rfl) hrow rfl (by omega) hilm | exact aQ rfl (by as_aux_lemma=>kernel_rfl) rfl rfl rfl hrow hgl);apply aw rfl rfl rfl;(first | exact aB rfl rfl rfl hbf | exact bj (j:=0) rfl rfl rfl rfl rfl (by as_aux_lemma=>kernel_rfl) hrow rfl (by omega) hilm | exact aQ rfl (by as_aux_lemma=>kernel_rfl) rfl rfl rfl hrow hgl);apply ae rfl;(exact aY rfl rfl rfl);apply ae rfl;(exact ai rfl rfl);refine aq ?_)
   exact aU (Wk.of ⟨rfl,rfl,rfl,trivial⟩ ⟨rfl,trivial⟩ trivial)
  ·(apply aA rfl rfl rfl rfl rfl;apply aA rfl rfl rfl rfl rfl;apply aA rfl rfl rfl rfl rfl;apply aA rfl rfl rfl rfl rfl;apply ae rfl;(exact a7 rfl rfl rfl);apply ae rfl;(exact ai rfl rfl);refine aq ?_)
   exact aU (Wk.of ⟨rfl,rfl,rfl,trivial⟩ ⟨rfl,trivial⟩ trivial)
 (refine an ?_)
 refine ax rfl (fun e=>by cases e) (fun _=> ?_)
 (refine aj ?_;refine ag ?_;apply ae rfl;(exact ah rfl rfl);apply ae rfl;(exact cr (E:=2) rfl (by as_aux_lemma=>kernel_rfl) rfl rfl);apply ae rfl;(first | (apply ar 142;exact au hE1 (by as_aux_lemma=>kernel_rfl) rfl rfl ⟨rfl,rfl,trivial⟩ ⟨⟨_,rfl, .inl rfl⟩,⟨_,rfl, .inr rfl⟩,trivial⟩ rfl rfl) | exact aM (E:=2) rfl (by as_aux_lemma=>kernel_rfl) rfl rfl rfl | exact aL (E:=2) rfl (by as_aux_lemma=>kernel_rfl) rfl rfl rfl rfl);apply ae rfl;(exact ai rfl rfl);refine aq ?_;refine an ?_)
 refine ax rfl (fun e=>by cases e) (fun _=> ?_)
 (refine aj ?_;refine ag ?_;apply ae rfl;(exact ah rfl rfl);apply ae rfl;(first | (apply ar 142;exact au hE2 (by as_aux_lemma=>kernel_rfl) rfl rfl ⟨rfl,rfl,trivial⟩ ⟨⟨_,rfl, .inl rfl⟩,⟨_,rfl, .inr rfl⟩,trivial⟩ rfl rfl) | exact aM (E:=2) rfl (by as_aux_lemma=>kernel_rfl) rfl rfl rfl | exact aL (E:=2) rfl (by as_aux_lemma=>kernel_rfl) rfl rfl rfl rfl);apply ae rfl;(first | (apply ar 142;exact au hE2 (by as_aux_lemma=>kernel_rfl) rfl rfl ⟨rfl,rfl,trivial⟩ ⟨⟨_,rfl, .inl rfl⟩,⟨_,rfl, .inr rfl⟩,trivial⟩ rfl rfl) | exact aM (E:=2) rfl (by as_aux_lemma=>kernel_rfl) rfl rfl rfl | exact aL (E:=2) rfl (by as_aux_lemma=>kernel_rfl) rfl rfl rfl rfl);apply ae rfl;(exact ai rfl rfl);refine aq ?_;refine an ?_)
 refine ax rfl (fun e=>by cases e) (fun _=> ?_)
 (refine aj ?_;refine ag ?_;apply ae rfl;(exact ah rfl rfl);apply ae rfl;(first | (apply ar 142;exact au hE3 (by as_aux_lemma=>kernel_rfl) rfl rfl ⟨rfl,rfl,trivial⟩ ⟨⟨_,rfl, .inl rfl⟩,⟨_,rfl, .inr rfl⟩,trivial⟩ rfl rfl) | exact aM (E:=2) rfl (by as_aux_lemma=>kernel_rfl) rfl rfl rfl | exact aL (E:=2) rfl (by as_aux_lemma=>kernel_rfl) rfl rfl rfl rfl);apply ae rfl;(first | (apply ar 142;exact au hE3 (by as_aux_lemma=>kernel_rfl) rfl rfl ⟨rfl,rfl,trivial⟩ ⟨⟨_,rfl, .inl rfl⟩,⟨_,rfl, .inr rfl⟩,trivial⟩ rfl rfl) | exact aM (E:=2) rfl (by as_aux_lemma=>kernel_rfl) rfl rfl rfl | exact aL (E:=2) rfl (by as_aux_lemma=>kernel_rfl) rfl rfl rfl rfl);apply ae rfl;(exact ai rfl rfl);refine aq ?_;refine an ?_)
 refine ax rfl (fun e=>by cases e) (fun _=> ?_)
 (refine aG ?_;refine aI ?_;refine an ?_;refine aj ?_;refine aj ?_;refine ag ?_;apply ae rfl;(exact ah rfl rfl);apply ae rfl;(exact aB rfl rfl rfl rfl);refine aq ?_;refine an ?_)
 refine ax rfl (fun e=> ?_) (fun _=> ?_)
 ·exfalso;simp at e;omega
 (refine aG ?_;refine an ?_;refine aj ?_;refine ag ?_;apply ae rfl;(exact ah rfl rfl);apply ae rfl;(exact ai rfl rfl);refine aq ?_;refine an ?_;refine aj ?_;refine aj ?_;refine ag ?_;apply ae rfl;(exact ah rfl rfl);apply ae rfl;(first | exact bj (j:=0) rfl rfl rfl rfl rfl (by as_aux_lemma=>kernel_rfl) hrow rfl (by omega) hilm | exact aQ rfl (by as_aux_lemma=>kernel_rfl) rfl rfl rfl hrow hgl);apply ae rfl;(first | exact bj (j:=0) rfl rfl rfl rfl rfl (by as_aux_lemma=>kernel_rfl) hrow rfl (by omega) hilm | exact aQ rfl (by as_aux_lemma=>kernel_rfl) rfl rfl rfl hrow hgl);apply ae rfl;(exact aB rfl rfl rfl rfl);refine aq ?_;refine an ?_)
 refine ax rfl (fun e=> ?_) (fun e=> ?_)
 rotate_left
 ·exfalso;simp at e;exact hA e
 (refine ag ?_;apply ae rfl;(exact ah rfl rfl);apply ae rfl;(apply ar 143;exact bl hTn (by as_aux_lemma=>kernel_rfl) rfl rfl ⟨rfl,trivial⟩ ⟨⟨_,rfl, .inl rfl⟩,trivial⟩ rfl rfl rfl);apply ae rfl;(exact ai rfl rfl);refine aq ?_;refine an ?_;refine aj ?_;refine aj ?_;refine ag ?_;apply ae rfl;(exact ai rfl rfl);refine aq ?_;refine an ?_;refine aD ?_)
 refine bx (fun k:Nat=>St.of [(3,vv (I6 ((m:Int) + 1))),(4,o1 (.sl 52 0 m)),(5,vv (I6 k))] [(52,bI labs.reverse)]) (fun k=>k≤m - 1∧∀q,q < k→aC (ends labs) q=3) (fun k=>m - k) 0 ⟨Nat.zero_le _,fun q h=>absurd h (by omega)⟩ (Wk.of ⟨rfl,rfl,rfl,trivial⟩ ⟨rfl,trivial⟩ trivial) ?_
 rintro k ⟨hk,hq3⟩
 have hkm:k < m:=by omega
 have hgk:(aH labs.reverse)[k]? =some (I6 (aC (ends labs) k)):=by rw [hE];exact aR (by first | omega | (rw [List.length_reverse];omega))
 have hwk:IntKind.i64.wrap ((k:Int) + 1)=(k:Int) + 1:=IntWalk.i64_in _ (by omega)
 (refine aj ?_;refine aj ?_;refine ag ?_;apply ae rfl;(exact ah rfl rfl);apply ae rfl;(exact aJ rfl rfl rfl hwk);apply ae rfl;(exact ah rfl rfl);apply ae rfl;(exact br rfl rfl rfl (by as_aux_lemma=>kernel_rfl));apply ae rfl;(exact aB rfl rfl rfl rfl);refine aq ?_;refine an ?_)
 refine bM rfl (fun hlt=> ?_) (fun hlt=> ?_)
 ·(refine aG ?_;refine an ?_;refine aj ?_;refine aD ?_;refine aj ?_;refine ag ?_;apply ae rfl;(exact ah rfl rfl);apply ae rfl;(exact ah rfl rfl);apply ae rfl;(first | exact aS (j:=k) rfl rfl rfl rfl rfl (by as_aux_lemma=>kernel_rfl) rfl hkm hilr | exact aV rfl (by as_aux_lemma=>kernel_rfl) rfl rfl rfl hgk);apply ae rfl;(first | exact aS (j:=k) rfl rfl rfl rfl rfl (by as_aux_lemma=>kernel_rfl) rfl hkm hilr | exact aV rfl (by as_aux_lemma=>kernel_rfl) rfl rfl rfl hgk);apply ae rfl;(exact aB rfl rfl rfl rfl);refine aq ?_;refine an ?_)
  refine ax rfl (fun e=> ?_) (fun e=> ?_)
  ·exfalso
   have:=fE ht (k:=k) (by omega)
   simp at e
   exact e this
  ·have e:aC (ends labs) k=3:=by simpa using e
   (refine aG ?_;refine aI ?_;refine an ?_;refine ag ?_;apply ae rfl;(exact ah rfl rfl);apply ae rfl;(exact aJ rfl rfl rfl hwk);apply ae rfl;(exact ai rfl rfl);refine aq ?_)
   exact aX (k + 1) ⟨by omega,fun q h=>by
    by_cases e':q=k
    ·subst e';exact e
    ·exact hq3 q (by omega)⟩ (by omega) (Wk.of ⟨rfl,rfl,rfl,trivial⟩ ⟨rfl,trivial⟩ trivial)
 ·have hgm:(aH labs.reverse)[m - 1]? =some (I6 (aC (ends labs) (m - 1))):=by rw [hE];exact aR (by first | omega | (rw [List.length_reverse];omega))
  have hm1:(m:Int) - 1=((m - 1:Nat):Int):=by omega
  have hws:IntKind.i64.wrap ((m:Int) - 1)=(m:Int) - 1:=IntWalk.i64_in _ (by omega)
  rw [hm] at hlast
  (refine a6 ?_;refine aE ?_;refine aE ?_;refine aP ?_;refine an ?_;refine aj ?_;refine ag ?_;apply ae rfl;(exact dr (E:=2) (k:=1) rfl (by as_aux_lemma=>kernel_rfl));apply ae rfl;(exact ai rfl rfl);refine aq ?_;refine an ?_;refine aj ?_;refine aj ?_;refine ag ?_;apply ae rfl;(exact ah rfl rfl);apply ae rfl;(exact ah rfl rfl);apply ae rfl;(exact br rfl rfl rfl (by as_aux_lemma=>kernel_rfl));apply ae rfl;(first | exact bf rfl rfl rfl hws | exact aS (j:=m - 1) rfl rfl rfl rfl rfl (by as_aux_lemma=>kernel_rfl) hm1 (by omega) hilr | exact aV rfl (by as_aux_lemma=>kernel_rfl) rfl rfl rfl hgm);apply ae rfl;(first | exact bf rfl rfl rfl hws | exact aS (j:=m - 1) rfl rfl rfl rfl rfl (by as_aux_lemma=>kernel_rfl) hm1 (by omega) hilr | exact aV rfl (by as_aux_lemma=>kernel_rfl) rfl rfl rfl hgm);apply ae rfl;(first | exact bf rfl rfl rfl hws | exact aS (j:=m - 1) rfl rfl rfl rfl rfl (by as_aux_lemma=>kernel_rfl) hm1 (by omega) hilr | exact aV rfl (by as_aux_lemma=>kernel_rfl) rfl rfl rfl hgm);refine aq ?_;refine an ?_;refine aD ?_;refine aj ?_;refine ag ?_;apply ae rfl;(exact aB rfl rfl rfl rfl);apply ae rfl;(exact ai rfl rfl);refine aq ?_;refine an ?_)
  refine ax rfl (fun e=> ?_) (fun _=> ?_)
  ·exfalso;simp at e;exact hlast.1 e
  (refine aj ?_;refine ag ?_;apply ae rfl;(exact aB rfl rfl rfl rfl);apply ae rfl;(exact ai rfl rfl);refine aq ?_;refine an ?_)
  refine ax rfl (fun e=> ?_) (fun _=> ?_)
  ·exfalso;simp at e;exact hlast.2 e
  (refine aG ?_;refine aI ?_;refine an ?_;refine aj ?_;refine ag ?_;apply ae rfl;(exact ah rfl rfl);apply ae rfl;(exact ai rfl rfl);refine aq ?_;refine an ?_;refine aK ?_)
  exact aW (.inl rfl) rfl (.tmp rfl) ⟨rfl,trivial⟩ trivial
theorem rZ (zss:List (List Int)) (i m:Nat) (labs:List Int) (hi:i < zss.length) (hlb:cD zss i=labs) (hm:labs.length=m) (hm4:m≤4):
  (cO labs= []∧FC Tryz.prog 116 [(1000,bu zss)] [o1 (.esl 1000 i 0 m)] [] (vv (.slice none 0 0)) [])∨FC Tryz.prog 116 [(1000,bu zss)] [o1 (.esl 1000 i 0 m)] [(2100,bI (cO labs))] (o1 (.sl 2100 0 (cO labs).length)) []:=by
 unfold cO
 rw [hm]
 by_cases h0:m=0
 ·rw [if_pos h0]
  subst h0
  exact .inr ((uJ zss i 0 labs hi hlb hm hm4 rfl).nm [(1000,1000),(15,2100)] (by kernel_rfl))
 rw [if_neg h0]
 by_cases hq:m=1∧0 < aC labs 0
 ·rw [if_pos hq]
  obtain ⟨rfl,hp⟩:=hq
  exact .inr ((ue zss i 1 labs hi hlb hm hm4 rfl hp).nm [(1000,1000),(28,2100)] (by kernel_rfl))
 rw [if_neg hq]
 have h0':0 < m:=by omega
 cases e1:bA labs [3,5] with
 | true=>
  obtain rfl:m=2:=by rcases dx.1 e1 with rfl | rfl<;>exact hm.symm
  exact .inr ((ur zss i 2 labs hi hlb hm hm4 h0' hq e1).nm [(1000,1000),(33,2100)] (by kernel_rfl))
 | false=>
 cases e2:bA labs [3,3,5] with
 | true=>
  obtain rfl:m=3:=by rcases dx.1 e2 with rfl | rfl<;>exact hm.symm
  exact .inr ((tT zss i 3 labs hi hlb hm hm4 h0' hq e1 e2).nm [(1000,1000),(38,2100)] (by kernel_rfl))
 | false=>
 cases e3:bA labs [3,4,3] with
 | true=>
  obtain rfl:m=3:=by rcases dx.1 e3 with rfl | rfl<;>exact hm.symm
  exact .inr ((uj zss i 3 labs hi hlb hm hm4 h0' hq e1 e2 e3).nm [(1000,1000),(43,2100)] (by kernel_rfl))
 | false=>
 by_cases h1:m=1
 ·have hl:labs= [aC labs 0]:=by
   match labs,hm,h1 with
   | [a],_,_=>rfl
  have hz:¬0 < aC labs 0:=fun h=>hq ⟨h1,h⟩
  have e4:labs≠List.replicate m 3:=by
   rw [hl,h1];intro e;simp at e;omega
  have e5:bA labs ((List.replicate m (3:Int)).set 0 4)=false:=by
   rw [hl,h1]
   cases h:bA [aC labs 0] ((List.replicate 1 (3:Int)).set 0 4) with
   | false=>rfl
   | true=>
    rcases dx.1 h with h | h<;>(simp at h;omega)
  simp only [Bool.false_eq_true,if_false]
  rw [if_neg e4,e5]
  exact .inl ⟨rfl,tx zss i m labs hi hlb hm hm4 h0' hq e1 e2 e3 h1⟩
 have h2:2≤m:=by omega
 have hte:=uD (part:=labs) (by omega) (by omega)
 rw [hm] at hte
 simp only [Bool.false_eq_true,if_false]
 rw [←hte]
 unfold oX
 rw [hm]
 cases ht:ef labs with
 | false=>
  rw [if_neg (by simp)]
  refine .inl ⟨rfl, ?_⟩
  by_cases hA:aC labs 0=3
  ·exact qE zss i m labs hi hlb hm hm4 h0' hq e1 e2 e3 h2 hA ht
  ·exact qv zss i m labs hi hlb hm hm4 h0' hq e1 e2 e3 h2 hA ht
 | true=>
  rw [if_pos rfl]
  refine .inr ?_
  by_cases l3:aC (ends labs) (m - 1)=3
  ·rw [if_pos l3,cF]
   have l3':aC (ends labs) (labs.length - 1)=3:=by rw [hm];exact l3
   by_cases hA:aC labs 0=3
   ·exact (qV zss i m labs hi hlb hm hm4 h0' hq e1 e2 e3 h2 hA ht l3').nm [(1000,1000),(65,2100)] (by kernel_rfl)
   ·exact (qF zss i m labs hi hlb hm hm4 h0' hq e1 e2 e3 h2 hA ht l3').nm [(1000,1000),(65,2100)] (by kernel_rfl)
  rw [if_neg l3]
  by_cases l4:aC (ends labs) (m - 1)=4
  ·rw [if_pos l4,cF]
   have l4':aC (ends labs) (labs.length - 1)=4:=by rw [hm];exact l4
   by_cases hA:aC labs 0=3
   ·exact (qS zss i m labs hi hlb hm hm4 h0' hq e1 e2 e3 h2 hA ht l4').nm [(1000,1000),(65,2100)] (by kernel_rfl)
   ·exact (rf zss i m labs hi hlb hm hm4 h0' hq e1 e2 e3 h2 hA ht l4').nm [(1000,1000),(65,2100)] (by kernel_rfl)
  rw [if_neg l4]
  have l':aC (ends labs) (labs.length - 1)≠3∧aC (ends labs) (labs.length - 1)≠4:=by rw [hm];exact ⟨l3,l4⟩
  by_cases hA:aC labs 0=3
  ·exact (qd zss i m labs hi hlb hm hm4 h0' hq e1 e2 e3 h2 hA ht l').nm [(1000,1000),(65,2100)] (by kernel_rfl)
  ·exact (rk zss i m labs hi hlb hm hm4 h0' hq e1 e2 e3 h2 hA ht l').nm [(1000,1000),(65,2100)] (by kernel_rfl)
set_option maxRecDepth 100000 in
set_option maxHeartbeats 2000000 in
theorem qT (zss:List (List Int)) (i m:Nat) (labs:List Int) (hi:i < zss.length) (hlb:cD zss i=labs) (hm:labs.length=m) (hm4:m≤4):
  FC Tryz.prog 120 [(1000,bu zss)] [o1 (.esl 1000 i 0 m)] [] (vv (.bool (wV labs))) []:=by
 have hE0:=(bw zss i m 1 labs [0] hi hlb hm rfl (by omega) (by omega)).nm [(1000,1000),(1001,4)] (by kernel_rfl)
 have hE0:FC Tryz.prog 142 [(1000,bu zss),(4,cf [0])] [o1 (.esl 1000 i 0 m),o1 (.sl 4 0 1)] [] (vv (.bool (bA labs [0]))) []:=hE0
 have hE1:=(bw zss i m 2 labs [4,4] hi hlb hm rfl (by omega) (by omega)).nm [(1000,1000),(1001,8)] (by kernel_rfl)
 have hE1:FC Tryz.prog 142 [(1000,bu zss),(8,cf [4,4])] [o1 (.esl 1000 i 0 m),o1 (.sl 8 0 2)] [] (vv (.bool (bA labs [4,4]))) []:=hE1
 have hE2:=(bw zss i m 2 labs [3,6] hi hlb hm rfl (by omega) (by omega)).nm [(1000,1000),(1001,13)] (by kernel_rfl)
 have hE2:FC Tryz.prog 142 [(1000,bu zss),(13,cf [3,6])] [o1 (.esl 1000 i 0 m),o1 (.sl 13 0 2)] [] (vv (.bool (bA labs [3,6]))) []:=hE2
 have hE3:=(bw zss i m 3 labs [4,3,4] hi hlb hm rfl (by omega) (by omega)).nm [(1000,1000),(1001,18)] (by kernel_rfl)
 have hE3:FC Tryz.prog 142 [(1000,bu zss),(18,cf [4,3,4])] [o1 (.esl 1000 i 0 m),o1 (.sl 18 0 3)] [] (vv (.bool (bA labs [4,3,4]))) []:=hE3
 have hE4:=(bw zss i m 4 labs [3,4,3,3] hi hlb hm rfl (by omega) (by omega)).nm [(1000,1000),(1001,23)] (by kernel_rfl)
 have hE4:FC Tryz.prog 142 [(1000,bu zss),(23,cf [3,4,3,3])] [o1 (.esl 1000 i 0 m),o1 (.sl 23 0 4)] [] (vv (.bool (bA labs [3,4,3,3]))) []:=hE4
 have hE5:=(bw zss i m 4 labs [4,3,3,4] hi hlb hm rfl (by omega) (by omega)).nm [(1000,1000),(1001,28)] (by kernel_rfl)
 have hE5:FC Tryz.prog 142 [(1000,bu zss),(28,cf [4,3,3,4])] [o1 (.esl 1000 i 0 m),o1 (.sl 28 0 4)] [] (vv (.bool (bA labs [4,3,3,4]))) []:=hE5
 refine a5 (nt:=31) Tryz.func120 rfl rfl (by simp) fun w0 ω0=> ?_
 unfold wV
 (refine aj ?_;refine ag ?_;apply ae rfl;(exact ai rfl rfl);refine aq ?_;refine an ?_;refine aj ?_;refine ag ?_;apply ae rfl;(exact ah rfl rfl);apply ae rfl;(exact cJ (E:=2) rfl (by as_aux_lemma=>kernel_rfl) rfl);apply ae rfl;(first | (apply ar 142;exact au hE0 (by as_aux_lemma=>kernel_rfl) rfl rfl ⟨rfl,rfl,trivial⟩ ⟨⟨_,rfl, .inl rfl⟩,⟨_,rfl, .inr rfl⟩,trivial⟩ rfl rfl) | (apply ar 142;exact au hE1 (by as_aux_lemma=>kernel_rfl) rfl rfl ⟨rfl,rfl,trivial⟩ ⟨⟨_,rfl, .inl rfl⟩,⟨_,rfl, .inr rfl⟩,trivial⟩ rfl rfl) | (apply ar 142;exact au hE2 (by as_aux_lemma=>kernel_rfl) rfl rfl ⟨rfl,rfl,trivial⟩ ⟨⟨_,rfl, .inl rfl⟩,⟨_,rfl, .inr rfl⟩,trivial⟩ rfl rfl) | (apply ar 142;exact au hE3 (by as_aux_lemma=>kernel_rfl) rfl rfl ⟨rfl,rfl,trivial⟩ ⟨⟨_,rfl, .inl rfl⟩,⟨_,rfl, .inr rfl⟩,trivial⟩ rfl rfl) | (apply ar 142;exact au hE4 (by as_aux_lemma=>kernel_rfl) rfl rfl ⟨rfl,rfl,trivial⟩ ⟨⟨_,rfl, .inl rfl⟩,⟨_,rfl, .inr rfl⟩,trivial⟩ rfl rfl) | (apply ar 142;exact au hE5 (by as_aux_lemma=>kernel_rfl) rfl rfl ⟨rfl,rfl,trivial⟩ ⟨⟨_,rfl, .inl rfl⟩,⟨_,rfl, .inr rfl⟩,trivial⟩ rfl rfl) | exact aM (E:=2) rfl (by as_aux_lemma=>kernel_rfl) rfl rfl rfl | exact aL (E:=2) rfl (by as_aux_lemma=>kernel_rfl) rfl rfl rfl rfl);apply ae rfl;(exact ah rfl rfl))
 refine bH 6 rfl (fun h=> ?_) (fun h=> ?_)
 ·rw [h]
  simp only [Bool.true_or]
  (apply aA rfl rfl rfl rfl rfl;apply aA rfl rfl rfl rfl rfl;apply aA rfl rfl rfl rfl rfl;apply ae rfl;(exact aY rfl rfl rfl);apply ae rfl;(exact ah rfl rfl);apply aA rfl rfl rfl rfl rfl;apply aA rfl rfl rfl rfl rfl;apply aA rfl rfl rfl rfl rfl;apply ae rfl;(exact aY rfl rfl rfl);apply ae rfl;(exact ah rfl rfl);apply aA rfl rfl rfl rfl rfl;apply aA rfl rfl rfl rfl rfl;apply aA rfl rfl rfl rfl rfl;apply ae rfl;(exact aY rfl rfl rfl);apply ae rfl;(exact ah rfl rfl);apply aA rfl rfl rfl rfl rfl;apply aA rfl rfl rfl rfl rfl;apply aA rfl rfl rfl rfl rfl;apply ae rfl;(exact aY rfl rfl rfl);apply ae rfl;(exact ah rfl rfl);apply aA rfl rfl rfl rfl rfl;apply aA rfl rfl rfl rfl rfl;apply aA rfl rfl rfl rfl rfl;apply ae rfl;(exact aY rfl rfl rfl);apply ae rfl;(exact ai rfl rfl);refine aq ?_;refine an ?_;refine aK ?_)
  exact aW (.inl rfl) rfl (.tmp rfl) trivial trivial
 rw [h,Bool.false_or]
 (apply aw rfl rfl rfl;(exact ah rfl rfl);apply aw rfl rfl rfl;(exact cr (E:=2) rfl (by as_aux_lemma=>kernel_rfl) rfl rfl);apply aw rfl rfl rfl;(first | (apply ar 142;exact au hE0 (by as_aux_lemma=>kernel_rfl) rfl rfl ⟨rfl,rfl,trivial⟩ ⟨⟨_,rfl, .inl rfl⟩,⟨_,rfl, .inr rfl⟩,trivial⟩ rfl rfl) | (apply ar 142;exact au hE1 (by as_aux_lemma=>kernel_rfl) rfl rfl ⟨rfl,rfl,trivial⟩ ⟨⟨_,rfl, .inl rfl⟩,⟨_,rfl, .inr rfl⟩,trivial⟩ rfl rfl) | (apply ar 142;exact au hE2 (by as_aux_lemma=>kernel_rfl) rfl rfl ⟨rfl,rfl,trivial⟩ ⟨⟨_,rfl, .inl rfl⟩,⟨_,rfl, .inr rfl⟩,trivial⟩ rfl rfl) | (apply ar 142;exact au hE3 (by as_aux_lemma=>kernel_rfl) rfl rfl ⟨rfl,rfl,trivial⟩ ⟨⟨_,rfl, .inl rfl⟩,⟨_,rfl, .inr rfl⟩,trivial⟩ rfl rfl) | (apply ar 142;exact au hE4 (by as_aux_lemma=>kernel_rfl) rfl rfl ⟨rfl,rfl,trivial⟩ ⟨⟨_,rfl, .inl rfl⟩,⟨_,rfl, .inr rfl⟩,trivial⟩ rfl rfl) | (apply ar 142;exact au hE5 (by as_aux_lemma=>kernel_rfl) rfl rfl ⟨rfl,rfl,trivial⟩ ⟨⟨_,rfl, .inl rfl⟩,⟨_,rfl, .inr rfl⟩,trivial⟩ rfl rfl) | exact aM (E:=2) rfl (by as_aux_lemma=>kernel_rfl) rfl rfl rfl | exact aL (E:=2) rfl (by as_aux_lemma=>kernel_rfl) rfl rfl rfl rfl);apply ae rfl;(exact a7 rfl rfl rfl);apply ae rfl;(exact ah rfl rfl))
 refine bH 11 rfl (fun h=> ?_) (fun h=> ?_)
 ·rw [h]
  simp only [Bool.true_or]
  (apply aA rfl rfl rfl rfl rfl;apply aA rfl rfl rfl rfl rfl;apply aA rfl rfl rfl rfl rfl;apply ae rfl;(exact aY rfl rfl rfl);apply ae rfl;(exact ah rfl rfl);apply aA rfl rfl rfl rfl rfl;apply aA rfl rfl rfl rfl rfl;apply aA rfl rfl rfl rfl rfl;apply ae rfl;(exact aY rfl rfl rfl);apply ae rfl;(exact ah rfl rfl);apply aA rfl rfl rfl rfl rfl;apply aA rfl rfl rfl rfl rfl;apply aA rfl rfl rfl rfl rfl;apply ae rfl;(exact aY rfl rfl rfl);apply ae rfl;(exact ah rfl rfl);apply aA rfl rfl rfl rfl rfl;apply aA rfl rfl rfl rfl rfl;apply aA rfl rfl rfl rfl rfl;apply ae rfl;(exact aY rfl rfl rfl);apply ae rfl;(exact ai rfl rfl);refine aq ?_;refine an ?_;refine aK ?_)
  exact aW (.inl rfl) rfl (.tmp rfl) trivial trivial
 rw [h,Bool.false_or]
 (apply aw rfl rfl rfl;(exact ah rfl rfl);apply aw rfl rfl rfl;(exact cr (E:=2) rfl (by as_aux_lemma=>kernel_rfl) rfl rfl);apply aw rfl rfl rfl;(first | (apply ar 142;exact au hE0 (by as_aux_lemma=>kernel_rfl) rfl rfl ⟨rfl,rfl,trivial⟩ ⟨⟨_,rfl, .inl rfl⟩,⟨_,rfl, .inr rfl⟩,trivial⟩ rfl rfl) | (apply ar 142;exact au hE1 (by as_aux_lemma=>kernel_rfl) rfl rfl ⟨rfl,rfl,trivial⟩ ⟨⟨_,rfl, .inl rfl⟩,⟨_,rfl, .inr rfl⟩,trivial⟩ rfl rfl) | (apply ar 142;exact au hE2 (by as_aux_lemma=>kernel_rfl) rfl rfl ⟨rfl,rfl,trivial⟩ ⟨⟨_,rfl, .inl rfl⟩,⟨_,rfl, .inr rfl⟩,trivial⟩ rfl rfl) | (apply ar 142;exact au hE3 (by as_aux_lemma=>kernel_rfl) rfl rfl ⟨rfl,rfl,trivial⟩ ⟨⟨_,rfl, .inl rfl⟩,⟨_,rfl, .inr rfl⟩,trivial⟩ rfl rfl) | (apply ar 142;exact au hE4 (by as_aux_lemma=>kernel_rfl) rfl rfl ⟨rfl,rfl,trivial⟩ ⟨⟨_,rfl, .inl rfl⟩,⟨_,rfl, .inr rfl⟩,trivial⟩ rfl rfl) | (apply ar 142;exact au hE5 (by as_aux_lemma=>kernel_rfl) rfl rfl ⟨rfl,rfl,trivial⟩ ⟨⟨_,rfl, .inl rfl⟩,⟨_,rfl, .inr rfl⟩,trivial⟩ rfl rfl) | exact aM (E:=2) rfl (by as_aux_lemma=>kernel_rfl) rfl rfl rfl | exact aL (E:=2) rfl (by as_aux_lemma=>kernel_rfl) rfl rfl rfl rfl);apply ae rfl;(exact a7 rfl rfl rfl);apply ae rfl;(exact ah rfl rfl))
 refine bH 16 rfl (fun h=> ?_) (fun h=> ?_)
 ·rw [h]
  simp only [Bool.true_or]
  (apply aA rfl rfl rfl rfl rfl;apply aA rfl rfl rfl rfl rfl;apply aA rfl rfl rfl rfl rfl;apply ae rfl;(exact aY rfl rfl rfl);apply ae rfl;(exact ah rfl rfl);apply aA rfl rfl rfl rfl rfl;apply aA rfl rfl rfl rfl rfl;apply aA rfl rfl rfl rfl rfl;apply ae rfl;(exact aY rfl rfl rfl);apply ae rfl;(exact ah rfl rfl);apply aA rfl rfl rfl rfl rfl;apply aA rfl rfl rfl rfl rfl;apply aA rfl rfl rfl rfl rfl;apply ae rfl;(exact aY rfl rfl rfl);apply ae rfl;(exact ai rfl rfl);refine aq ?_;refine an ?_;refine aK ?_)
  exact aW (.inl rfl) rfl (.tmp rfl) trivial trivial
 rw [h,Bool.false_or]
 (apply aw rfl rfl rfl;(exact ah rfl rfl);apply aw rfl rfl rfl;(first | (apply ar 142;exact au hE0 (by as_aux_lemma=>kernel_rfl) rfl rfl ⟨rfl,rfl,trivial⟩ ⟨⟨_,rfl, .inl rfl⟩,⟨_,rfl, .inr rfl⟩,trivial⟩ rfl rfl) | (apply ar 142;exact au hE1 (by as_aux_lemma=>kernel_rfl) rfl rfl ⟨rfl,rfl,trivial⟩ ⟨⟨_,rfl, .inl rfl⟩,⟨_,rfl, .inr rfl⟩,trivial⟩ rfl rfl) | (apply ar 142;exact au hE2 (by as_aux_lemma=>kernel_rfl) rfl rfl ⟨rfl,rfl,trivial⟩ ⟨⟨_,rfl, .inl rfl⟩,⟨_,rfl, .inr rfl⟩,trivial⟩ rfl rfl) | (apply ar 142;exact au hE3 (by as_aux_lemma=>kernel_rfl) rfl rfl ⟨rfl,rfl,trivial⟩ ⟨⟨_,rfl, .inl rfl⟩,⟨_,rfl, .inr rfl⟩,trivial⟩ rfl rfl) | (apply ar 142;exact au hE4 (by as_aux_lemma=>kernel_rfl) rfl rfl ⟨rfl,rfl,trivial⟩ ⟨⟨_,rfl, .inl rfl⟩,⟨_,rfl, .inr rfl⟩,trivial⟩ rfl rfl) | (apply ar 142;exact au hE5 (by as_aux_lemma=>kernel_rfl) rfl rfl ⟨rfl,rfl,trivial⟩ ⟨⟨_,rfl, .inl rfl⟩,⟨_,rfl, .inr rfl⟩,trivial⟩ rfl rfl) | exact aM (E:=2) rfl (by as_aux_lemma=>kernel_rfl) rfl rfl rfl | exact aL (E:=2) rfl (by as_aux_lemma=>kernel_rfl) rfl rfl rfl rfl);apply aw rfl rfl rfl;(first | (apply ar 142;exact au hE0 (by as_aux_lemma=>kernel_rfl) rfl rfl ⟨rfl,rfl,trivial⟩ ⟨⟨_,rfl, .inl rfl⟩,⟨_,rfl, .inr rfl⟩,trivial⟩ rfl rfl) | (apply ar 142;exact au hE1 (by as_aux_lemma=>kernel_rfl) rfl rfl ⟨rfl,rfl,trivial⟩ ⟨⟨_,rfl, .inl rfl⟩,⟨_,rfl, .inr rfl⟩,trivial⟩ rfl rfl) | (apply ar 142;exact au hE2 (by as_aux_lemma=>kernel_rfl) rfl rfl ⟨rfl,rfl,trivial⟩ ⟨⟨_,rfl, .inl rfl⟩,⟨_,rfl, .inr rfl⟩,trivial⟩ rfl rfl) | (apply ar 142;exact au hE3 (by as_aux_lemma=>kernel_rfl) rfl rfl ⟨rfl,rfl,trivial⟩ ⟨⟨_,rfl, .inl rfl⟩,⟨_,rfl, .inr rfl⟩,trivial⟩ rfl rfl) | (apply ar 142;exact au hE4 (by as_aux_lemma=>kernel_rfl) rfl rfl ⟨rfl,rfl,trivial⟩ ⟨⟨_,rfl, .inl rfl⟩,⟨_,rfl, .inr rfl⟩,trivial⟩ rfl rfl) | (apply ar 142;exact au hE5 (by as_aux_lemma=>kernel_rfl) rfl rfl ⟨rfl,rfl,trivial⟩ ⟨⟨_,rfl, .inl rfl⟩,⟨_,rfl, .inr rfl⟩,trivial⟩ rfl rfl) | exact aM (E:=2) rfl (by as_aux_lemma=>kernel_rfl) rfl rfl rfl | exact aL (E:=2) rfl (by as_aux_lemma=>kernel_rfl) rfl rfl rfl rfl);apply ae rfl;(exact a7 rfl rfl rfl);apply ae rfl;(exact ah rfl rfl))
 refine bH 21 rfl (fun h=> ?_) (fun h=> ?_)
 ·rw [h]
  simp only [Bool.true_or]
  (apply aA rfl rfl rfl rfl rfl;apply aA rfl rfl rfl rfl rfl;apply aA rfl rfl rfl rfl rfl;apply ae rfl;(exact aY rfl rfl rfl);apply ae rfl;(exact ah rfl rfl);apply aA rfl rfl rfl rfl rfl;apply aA rfl rfl rfl rfl rfl;apply aA rfl rfl rfl rfl rfl;apply ae rfl;(exact aY rfl rfl rfl);apply ae rfl;(exact ai rfl rfl);refine aq ?_;refine an ?_;refine aK ?_)
  exact aW (.inl rfl) rfl (.tmp rfl) trivial trivial
 rw [h,Bool.false_or]
 (apply aw rfl rfl rfl;(exact ah rfl rfl);apply aw rfl rfl rfl;(first | (apply ar 142;exact au hE0 (by as_aux_lemma=>kernel_rfl) rfl rfl ⟨rfl,rfl,trivial⟩ ⟨⟨_,rfl, .inl rfl⟩,⟨_,rfl, .inr rfl⟩,trivial⟩ rfl rfl) | (apply ar 142;exact au hE1 (by as_aux_lemma=>kernel_rfl) rfl rfl ⟨rfl,rfl,trivial⟩ ⟨⟨_,rfl, .inl rfl⟩,⟨_,rfl, .inr rfl⟩,trivial⟩ rfl rfl) | (apply ar 142;exact au hE2 (by as_aux_lemma=>kernel_rfl) rfl rfl ⟨rfl,rfl,trivial⟩ ⟨⟨_,rfl, .inl rfl⟩,⟨_,rfl, .inr rfl⟩,trivial⟩ rfl rfl) | (apply ar 142;exact au hE3 (by as_aux_lemma=>kernel_rfl) rfl rfl ⟨rfl,rfl,trivial⟩ ⟨⟨_,rfl, .inl rfl⟩,⟨_,rfl, .inr rfl⟩,trivial⟩ rfl rfl) | (apply ar 142;exact au hE4 (by as_aux_lemma=>kernel_rfl) rfl rfl ⟨rfl,rfl,trivial⟩ ⟨⟨_,rfl, .inl rfl⟩,⟨_,rfl, .inr rfl⟩,trivial⟩ rfl rfl) | (apply ar 142;exact au hE5 (by as_aux_lemma=>kernel_rfl) rfl rfl ⟨rfl,rfl,trivial⟩ ⟨⟨_,rfl, .inl rfl⟩,⟨_,rfl, .inr rfl⟩,trivial⟩ rfl rfl) | exact aM (E:=2) rfl (by as_aux_lemma=>kernel_rfl) rfl rfl rfl | exact aL (E:=2) rfl (by as_aux_lemma=>kernel_rfl) rfl rfl rfl rfl);apply aw rfl rfl rfl;(first | (apply ar 142;exact au hE0 (by as_aux_lemma=>kernel_rfl) rfl rfl ⟨rfl,rfl,trivial⟩ ⟨⟨_,rfl, .inl rfl⟩,⟨_,rfl, .inr rfl⟩,trivial⟩ rfl rfl) | (apply ar 142;exact au hE1 (by as_aux_lemma=>kernel_rfl) rfl rfl ⟨rfl,rfl,trivial⟩ ⟨⟨_,rfl, .inl rfl⟩,⟨_,rfl, .inr rfl⟩,trivial⟩ rfl rfl) | (apply ar 142;exact au hE2 (by as_aux_lemma=>kernel_rfl) rfl rfl ⟨rfl,rfl,trivial⟩ ⟨⟨_,rfl, .inl rfl⟩,⟨_,rfl, .inr rfl⟩,trivial⟩ rfl rfl) | (apply ar 142;exact au hE3 (by as_aux_lemma=>kernel_rfl) rfl rfl ⟨rfl,rfl,trivial⟩ ⟨⟨_,rfl, .inl rfl⟩,⟨_,rfl, .inr rfl⟩,trivial⟩ rfl rfl) | (apply ar 142;exact au hE4 (by as_aux_lemma=>kernel_rfl) rfl rfl ⟨rfl,rfl,trivial⟩ ⟨⟨_,rfl, .inl rfl⟩,⟨_,rfl, .inr rfl⟩,trivial⟩ rfl rfl) | (apply ar 142;exact au hE5 (by as_aux_lemma=>kernel_rfl) rfl rfl ⟨rfl,rfl,trivial⟩ ⟨⟨_,rfl, .inl rfl⟩,⟨_,rfl, .inr rfl⟩,trivial⟩ rfl rfl) | exact aM (E:=2) rfl (by as_aux_lemma=>kernel_rfl) rfl rfl rfl | exact aL (E:=2) rfl (by as_aux_lemma=>kernel_rfl) rfl rfl rfl rfl);apply ae rfl;(exact a7 rfl rfl rfl);apply ae rfl;(exact ah rfl rfl))
 refine bH 26 rfl (fun h=> ?_) (fun h=> ?_)
 ·rw [h]
  simp only [Bool.true_or]
  (apply aA rfl rfl rfl rfl rfl;apply aA rfl rfl rfl rfl rfl;apply aA rfl rfl rfl rfl rfl;apply ae rfl;(exact aY rfl rfl rfl);apply ae rfl;(exact ai rfl rfl);refine aq ?_;refine an ?_;refine aK ?_)
  exact aW (.inl rfl) rfl (.tmp rfl) trivial trivial
 rw [h,Bool.false_or]
 (apply aw rfl rfl rfl;(exact ah rfl rfl);apply aw rfl rfl rfl;(first | (apply ar 142;exact au hE0 (by as_aux_lemma=>kernel_rfl) rfl rfl ⟨rfl,rfl,trivial⟩ ⟨⟨_,rfl, .inl rfl⟩,⟨_,rfl, .inr rfl⟩,trivial⟩ rfl rfl) | (apply ar 142;exact au hE1 (by as_aux_lemma=>kernel_rfl) rfl rfl ⟨rfl,rfl,trivial⟩ ⟨⟨_,rfl, .inl rfl⟩,⟨_,rfl, .inr rfl⟩,trivial⟩ rfl rfl) | (apply ar 142;exact au hE2 (by as_aux_lemma=>kernel_rfl) rfl rfl ⟨rfl,rfl,trivial⟩ ⟨⟨_,rfl, .inl rfl⟩,⟨_,rfl, .inr rfl⟩,trivial⟩ rfl rfl) | (apply ar 142;exact au hE3 (by as_aux_lemma=>kernel_rfl) rfl rfl ⟨rfl,rfl,trivial⟩ ⟨⟨_,rfl, .inl rfl⟩,⟨_,rfl, .inr rfl⟩,trivial⟩ rfl rfl) | (apply ar 142;exact au hE4 (by as_aux_lemma=>kernel_rfl) rfl rfl ⟨rfl,rfl,trivial⟩ ⟨⟨_,rfl, .inl rfl⟩,⟨_,rfl, .inr rfl⟩,trivial⟩ rfl rfl) | (apply ar 142;exact au hE5 (by as_aux_lemma=>kernel_rfl) rfl rfl ⟨rfl,rfl,trivial⟩ ⟨⟨_,rfl, .inl rfl⟩,⟨_,rfl, .inr rfl⟩,trivial⟩ rfl rfl) | exact aM (E:=2) rfl (by as_aux_lemma=>kernel_rfl) rfl rfl rfl | exact aL (E:=2) rfl (by as_aux_lemma=>kernel_rfl) rfl rfl rfl rfl);apply aw rfl rfl rfl;(first | (apply ar 142;exact au hE0 (by as_aux_lemma=>kernel_rfl) rfl rfl ⟨rfl,rfl,trivial⟩ ⟨⟨_,rfl, .inl rfl⟩,⟨_,rfl, .inr rfl⟩,trivial⟩ rfl rfl) | (apply ar 142;exact au hE1 (by as_aux_lemma=>kernel_rfl) rfl rfl ⟨rfl,rfl,trivial⟩ ⟨⟨_,rfl, .inl rfl⟩,⟨_,rfl, .inr rfl⟩,trivial⟩ rfl rfl) | (apply ar 142;exact au hE2 (by as_aux_lemma=>kernel_rfl) rfl rfl ⟨rfl,rfl,trivial⟩ ⟨⟨_,rfl, .inl rfl⟩,⟨_,rfl, .inr rfl⟩,trivial⟩ rfl rfl) | (apply ar 142;exact au hE3 (by as_aux_lemma=>kernel_rfl) rfl rfl ⟨rfl,rfl,trivial⟩ ⟨⟨_,rfl, .inl rfl⟩,⟨_,rfl, .inr rfl⟩,trivial⟩ rfl rfl) | (apply ar 142;exact au hE4 (by as_aux_lemma=>kernel_rfl) rfl rfl ⟨rfl,rfl,trivial⟩ ⟨⟨_,rfl, .inl rfl⟩,⟨_,rfl, .inr rfl⟩,trivial⟩ rfl rfl) | (apply ar 142;exact au hE5 (by as_aux_lemma=>kernel_rfl) rfl rfl ⟨rfl,rfl,trivial⟩ ⟨⟨_,rfl, .inl rfl⟩,⟨_,rfl, .inr rfl⟩,trivial⟩ rfl rfl) | exact aM (E:=2) rfl (by as_aux_lemma=>kernel_rfl) rfl rfl rfl | exact aL (E:=2) rfl (by as_aux_lemma=>kernel_rfl) rfl rfl rfl rfl);apply ae rfl;(exact a7 rfl rfl rfl);apply ae rfl;(exact ai rfl rfl);refine aq ?_;refine an ?_;refine aK ?_)
 exact aW (.inl rfl) rfl (.tmp rfl) trivial trivial
end Go.Proofs.YtekbhbcgoadciaaGreat
