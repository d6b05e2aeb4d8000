/- UniversalPolytope, both sides. Written by gen_uni.py. -/
import Derived.Test.YtfpcfckocmmcnaaPart10
import Derived.Test.YtfpcfckocmmcnaaPart9
import Derived.Test.YtfpcfckocmmcnaaPart8
import Derived.Test.YtfpcfckocmmcnaaPart3
import Derived.Deep.RegionHeld3
import Derived.Deep.QuietTactic
import Derived.Test.YtfpcfckocmmcnaaPart4
import Derived.Test.YtfpcfckocmmcnaaPart1
import Derived.Deep.DeepCutAuto
import Derived.Test.YtfpcfckocmmcnaaPart7
set_option maxRecDepth 100000
set_option maxHeartbeats 6400000
namespace Go.Proofs.Ytfpcfckocmmcnaa
open Go.RowKit
theorem xu (ao bo:Option Addr) (n c m c2:Nat) (zs:List Int) (ws:List (List Int)) (w:World) (h:cW w ao n zs) (h':ep w bo m ws):
  Calls Try.prog 7 #[.slice ao n c, .slice bo m c2] w fun e w'=>∃v,e= .returned (.tuple #[v, .int .i64 (fy zs ws)])∧sQ 2 24 w' w.heap.size w'.heap.size v (eB zs ws)∧Below w.heap.size w w':=by
 have k0:dQ (w.alloc (.cells #[.slice none 0 0] 29)) w.heap.size 29 #[.slice none 0 0]:=bS rfl
 have hb0:=below_alloc1 w (.cells #[.slice none 0 0] 29)
 have h1:=h.below hb0
 have h2:=h'.below hb0
 cases hD:cK zs with
 | false=>
  have HC:=Lib.hid (zG (ws:=ws) hD)
  have HD:=Lib.hid hD
  clear hD
  go_enter Try.func7,Try.ntmps7
  go_wp2_with fail
  refine (iK ao n c zs _ h1).mono ?_
  rintro e w1 ⟨rfl,b1⟩
  rw [HD.out]
  have k9:=k0.bm b1
  have B9:=bc b1 hb0
  clear h h' h1 h2 k0 b1
  have f9:=k9.frozen 0
  have x9:=k9.cell 0
  simp at x9
  go_wp2_with fail
  have kf:=k9.fz 0 (.slice none 0 0)
  have Bf:=B9.setCell (p:=⟨w.heap.size,0,none⟩) (by simp) (.slice none 0 0)
  generalize w1.setCell ⟨w.heap.size,0,none⟩ (.slice none 0 0)=wf at *
  simp at kf
  have e0:=kf.cell 0
  simp at e0
  refine bodyPost_ret (v:= .tuple #[.agg #[.slice none 0 0], .int .i64 1]) (by simp [results,Try.f7,go_sem,e0]) rfl ⟨_,by rw [HC.out.1], ?_,Bf⟩
  rw [HC.out.2]
  exact ⟨none,0,0, [],rfl,eT.dD (Own.iX _ _ _) (fun g hg=>by cases hg)⟩
 | true=>
  obtain ⟨hd1,hd2⟩:=mf hD
  rw [h.1] at hd1 hd2
  have HDB:=Lib.hid (And.intro hd1 hd2)
  have HH:=Lib.hid (And.intro h1 h2)
  have HK0:=Lib.hid (And.intro k0 hb0)
  have HD:=Lib.hid hD
  clear h h' h1 h2 k0 hb0 hD hd1 hd2
  by_cases hw:lu (aS zs) ws=0
  ·have hp:=pn hw
   have HW:=Lib.hid hw
   by_cases hs:da (dI zs ws) []=true
   ·have HT:=Lib.hid (nC (d:=dI zs ws) hp hs)
    have HN:Hid (lr (dI zs ws) []≤400):=Lib.hid (by unfold da at hs;simp at hs;exact hs.2)
    cases hM:iY (bX (dI zs ws) []) with
    | true=>
     have HC:=Lib.hid (yb HD.out hw hs hM)
     have HX:=Lib.hid (And.intro hp (And.intro hs hM))
     clear hw hp hs hM
     go_enter Try.func7,Try.ntmps7
     go_wp2_with fail
     refine (iK ao n c zs _ HH.out.1).mono ?_
     rintro e w1 ⟨rfl,b1⟩
     rw [HD.out]
     have K1:=Lib.hid (HK0.out.1.bm b1)
     have B1:=Lib.hid (bc b1 HK0.out.2)
     have I1:=Lib.hid (And.intro (HH.out.1.below b1) (HH.out.2.below b1))
     clear b1
     go_wp2_with fail
     refine (jD ao n c zs _ I1.out.1 HDB.out.2 HDB.out.1).mono ?_
     rintro e w2 ⟨v2,rfl,o2,b2⟩
     have K2:=Lib.hid (K1.out.bm b2)
     have B2:=Lib.hid (bc b2 B1.out)
     have I2:=Lib.hid (I1.out.2.below b2)
     clear b2
     go_wp2_with fail
     refine (mg bo m c2 ws _ o2.rd I2.out).mono ?_
     rintro e w3 ⟨v3,rfl,o3,b3⟩
     obtain ⟨a3,n3,c3,rfl⟩:=o3.form
     have k9:=(K2.out.bm b3).alloc (.cells #[.int .i64 (kT (aS zs) ws).1, .slice a3 n3 c3] 34)
     have B9:=(bc b3 B2.out).alloc (bc b3 B2.out).size (.cells #[.int .i64 (kT (aS zs) ws).1, .slice a3 n3 c3] 34)
     have O3:=Lib.hid (o3.below (below_alloc1 w3 (.cells #[.int .i64 (kT (aS zs) ws).1, .slice a3 n3 c3] 34)))
     clear b3 o2
     rw [HW.out]
     clear o3
     go_wp2_with fail
     generalize w3.alloc (.cells #[.int .i64 (kT (aS zs) ws).1, .slice a3 n3 c3] 34)=w4 at *
     have hw4:=k9.lt
     refine (l0 (d:=dI zs ws) w4 O3.out HX.out.1 HX.out.2.1).mono ?_
     rintro e w5 ⟨v5,rfl,⟨a5,n5,c5,us5,rfl,o5⟩,b5⟩
     have k9:=k9.bm b5
     have B9:=bc b5 B9
     have hs5:=b5.size
     have hlt9:=k9.lt
     have hl5:=o5.len
     have hpos:0 < n5:=by have:=HT.out.2.1;omega
     obtain ⟨g5,rfl, -, -, -, -, -⟩:=o5.own.form hpos
     obtain ⟨u0,d0,hu0,hd0,⟨a6,n6,c6,rfl,o6⟩, -⟩:=o5.get hpos
     have x6:=o5.cell hu0
     have hn6:n6≤400:=by
      have h1:=o6.len
      have h2:=HT.out.2.2.2 0 HT.out.2.1
      rw [hU hd0] at h2
      have h3:=HN.out
      simp at h1
      omega
     have hg6:decide ((n6:Int) > 400)=false:=by simp;omega
     have hp0:(0:Int) < (n5:Int):=by omega
     have O5:=Lib.hid o5
     have HL5:=Lib.hid hl5
     have hkb:=below_alloc1 w5 (.cells #[.slice (some ⟨g5,0,none⟩) n5 c5] 29)
     have HKB:=Lib.hid hkb
     clear b5 O3 o5 o6 hu0 hd0 hn6 hkb hl5
     go_wp2_with fail
     refine (xJ (d:=bX (dI zs ws) []) _ (⟨some ⟨g5,0,none⟩,n5,c5,us5,rfl,(O5.out.below (cJ _) HKB.out)⟩:sQ 2 24 _ w4.heap.size w5.heap.size _ _) (by have:=HT.out.2.2.1;omega) (fun i hi=>by have h1:=HT.out.2.2.2 i hi;have h2:=HN.out;omega)).mono ?_
     rintro e w7 ⟨rfl,b7⟩
     rw [HX.out.2.2]
     have k9:=(k9.alloc (.cells #[.slice (some ⟨g5,0,none⟩) n5 c5] 29)).bm b7
     have B9:=bc b7 (bc HKB.out B9)
     have xb:=((bS (w:=w5) (t:=29) (cs:= #[.slice (some ⟨g5,0,none⟩) n5 c5]) rfl).bm b7).cell 0
     have O7:=Lib.hid (O5.out.below (cJ _) (bc b7 HKB.out))
     have hs7:=(bc b7 HKB.out).size
     have f9:=k9.frozen 0
     have x9:=k9.cell 0
     simp at x9 xb
     clear b7 x6
     go_wp2_with fail
     have kf:=k9.fz 0 (.slice (some ⟨g5,0,none⟩) n5 c5)
     have Bf:=B9.setCell (p:=⟨w.heap.size,0,none⟩) (by simp) (.slice (some ⟨g5,0,none⟩) n5 c5)
     have hh:(w7.setCell ⟨w.heap.size,0,none⟩ (.slice (some ⟨g5,0,none⟩) n5 c5)).heap.size=w7.heap.size:=by simp [World.setCell]
     have of:eT (jV 2) (w7.setCell ⟨w.heap.size,0,none⟩ (.slice (some ⟨g5,0,none⟩) n5 c5)) w4.heap.size (w7.setCell ⟨w.heap.size,0,none⟩ (.slice (some ⟨g5,0,none⟩) n5 c5)).heap.size 24 (some ⟨g5,0,none⟩) n5 c5 us5 (bX (dI zs ws) []):=by
      rw [hh]
      exact (O7.out.same (cJ _) fun g h1 _ _=>Below.heap_setCell _ _ _ _ (by simp;omega)).mono (Nat.le_refl _) hs7
     clear hh
     generalize w7.setCell ⟨w.heap.size,0,none⟩ (.slice (some ⟨g5,0,none⟩) n5 c5)=wf at *
     simp at kf
     have e0:=kf.cell 0
     simp at e0
     refine bodyPost_ret (v:= .tuple #[.agg #[.slice (some ⟨g5,0,none⟩) n5 c5], .int .i64 0]) (by simp [results,Try.f7,go_sem,e0]) rfl ⟨_,by rw [HC.out.1], ?_,Bf⟩
     rw [HC.out.2]
     exact ⟨_,n5,c5,us5,rfl,of.mono ab (Nat.le_refl _)⟩
    | false=>
     have HC:=Lib.hid (Ay HD.out hw hs hM)
     have HX:=Lib.hid (And.intro hp (And.intro hs hM))
     clear hw hp hs hM
     go_enter Try.func7,Try.ntmps7
     go_wp2_with fail
     refine (iK ao n c zs _ HH.out.1).mono ?_
     rintro e w1 ⟨rfl,b1⟩
     rw [HD.out]
     have K1:=Lib.hid (HK0.out.1.bm b1)
     have B1:=Lib.hid (bc b1 HK0.out.2)
     have I1:=Lib.hid (And.intro (HH.out.1.below b1) (HH.out.2.below b1))
     clear b1
     go_wp2_with fail
     refine (jD ao n c zs _ I1.out.1 HDB.out.2 HDB.out.1).mono ?_
     rintro e w2 ⟨v2,rfl,o2,b2⟩
     have K2:=Lib.hid (K1.out.bm b2)
     have B2:=Lib.hid (bc b2 B1.out)
     have I2:=Lib.hid (I1.out.2.below b2)
     clear b2
     go_wp2_with fail
     refine (mg bo m c2 ws _ o2.rd I2.out).mono ?_
     rintro e w3 ⟨v3,rfl,o3,b3⟩
     obtain ⟨a3,n3,c3,rfl⟩:=o3.form
     have k9:=(K2.out.bm b3).alloc (.cells #[.int .i64 (kT (aS zs) ws).1, .slice a3 n3 c3] 34)
     have B9:=(bc b3 B2.out).alloc (bc b3 B2.out).size (.cells #[.int .i64 (kT (aS zs) ws).1, .slice a3 n3 c3] 34)
     have O3:=Lib.hid (o3.below (below_alloc1 w3 (.cells #[.int .i64 (kT (aS zs) ws).1, .slice a3 n3 c3] 34)))
     clear b3 o2
     rw [HW.out]
     clear o3
     go_wp2_with fail
     generalize w3.alloc (.cells #[.int .i64 (kT (aS zs) ws).1, .slice a3 n3 c3] 34)=w4 at *
     have hw4:=k9.lt
     refine (l0 (d:=dI zs ws) w4 O3.out HX.out.1 HX.out.2.1).mono ?_
     rintro e w5 ⟨v5,rfl,⟨a5,n5,c5,us5,rfl,o5⟩,b5⟩
     have k9:=k9.bm b5
     have B9:=bc b5 B9
     have hs5:=b5.size
     have hlt9:=k9.lt
     have hl5:=o5.len
     have hpos:0 < n5:=by have:=HT.out.2.1;omega
     obtain ⟨g5,rfl, -, -, -, -, -⟩:=o5.own.form hpos
     obtain ⟨u0,d0,hu0,hd0,⟨a6,n6,c6,rfl,o6⟩, -⟩:=o5.get hpos
     have x6:=o5.cell hu0
     have hn6:n6≤400:=by
      have h1:=o6.len
      have h2:=HT.out.2.2.2 0 HT.out.2.1
      rw [hU hd0] at h2
      have h3:=HN.out
      simp at h1
      omega
     have hg6:decide ((n6:Int) > 400)=false:=by simp;omega
     have hp0:(0:Int) < (n5:Int):=by omega
     have O5:=Lib.hid o5
     have HL5:=Lib.hid hl5
     have hkb:=below_alloc1 w5 (.cells #[.slice (some ⟨g5,0,none⟩) n5 c5] 29)
     have HKB:=Lib.hid hkb
     clear b5 O3 o5 o6 hu0 hd0 hn6 hkb hl5
     go_wp2_with fail
     refine (xJ (d:=bX (dI zs ws) []) _ (⟨some ⟨g5,0,none⟩,n5,c5,us5,rfl,(O5.out.below (cJ _) HKB.out)⟩:sQ 2 24 _ w4.heap.size w5.heap.size _ _) (by have:=HT.out.2.2.1;omega) (fun i hi=>by have h1:=HT.out.2.2.2 i hi;have h2:=HN.out;omega)).mono ?_
     rintro e w7 ⟨rfl,b7⟩
     rw [HX.out.2.2]
     have k9:=(k9.alloc (.cells #[.slice (some ⟨g5,0,none⟩) n5 c5] 29)).bm b7
     have B9:=bc b7 (bc HKB.out B9)
     have xb:=((bS (w:=w5) (t:=29) (cs:= #[.slice (some ⟨g5,0,none⟩) n5 c5]) rfl).bm b7).cell 0
     have O7:=Lib.hid (O5.out.below (cJ _) (bc b7 HKB.out))
     have hs7:=(bc b7 HKB.out).size
     have f9:=k9.frozen 0
     have x9:=k9.cell 0
     simp at x9 xb
     clear b7 x6
     go_wp2_with fail
     have kf:=k9.fz 0 (.slice none 0 0)
     have Bf:=B9.setCell (p:=⟨w.heap.size,0,none⟩) (by simp) (.slice none 0 0)
     generalize w7.setCell ⟨w.heap.size,0,none⟩ (.slice none 0 0)=wf at *
     simp at kf
     have e0:=kf.cell 0
     simp at e0
     refine bodyPost_ret (v:= .tuple #[.agg #[.slice none 0 0], .int .i64 5]) (by simp [results,Try.f7,go_sem,e0]) rfl ⟨_,by rw [HC.out.1], ?_,Bf⟩
     rw [HC.out.2]
     exact ⟨none,0,0, [],rfl,eT.dD (Own.iX _ _ _) (fun g hg=>by cases hg)⟩
   ·have HC:=Lib.hid (xW HD.out hw hs)
    have HX:=Lib.hid (And.intro hp hs)
    clear hw hp hs
    go_enter Try.func7,Try.ntmps7
    go_wp2_with fail
    refine (iK ao n c zs _ HH.out.1).mono ?_
    rintro e w1 ⟨rfl,b1⟩
    rw [HD.out]
    have K1:=Lib.hid (HK0.out.1.bm b1)
    have B1:=Lib.hid (bc b1 HK0.out.2)
    have I1:=Lib.hid (And.intro (HH.out.1.below b1) (HH.out.2.below b1))
    clear b1
    go_wp2_with fail
    refine (jD ao n c zs _ I1.out.1 HDB.out.2 HDB.out.1).mono ?_
    rintro e w2 ⟨v2,rfl,o2,b2⟩
    have K2:=Lib.hid (K1.out.bm b2)
    have B2:=Lib.hid (bc b2 B1.out)
    have I2:=Lib.hid (I1.out.2.below b2)
    clear b2
    go_wp2_with fail
    refine (mg bo m c2 ws _ o2.rd I2.out).mono ?_
    rintro e w3 ⟨v3,rfl,o3,b3⟩
    obtain ⟨a3,n3,c3,rfl⟩:=o3.form
    have k9:=(K2.out.bm b3).alloc (.cells #[.int .i64 (kT (aS zs) ws).1, .slice a3 n3 c3] 34)
    have B9:=(bc b3 B2.out).alloc (bc b3 B2.out).size (.cells #[.int .i64 (kT (aS zs) ws).1, .slice a3 n3 c3] 34)
    have O3:=Lib.hid (o3.below (below_alloc1 w3 (.cells #[.int .i64 (kT (aS zs) ws).1, .slice a3 n3 c3] 34)))
    clear b3 o2
    rw [HW.out]
    clear o3
    go_wp2_with fail
    generalize w3.alloc (.cells #[.int .i64 (kT (aS zs) ws).1, .slice a3 n3 c3] 34)=w4 at *
    refine (sE (d:=dI zs ws) w4 O3.out HX.out.1 HX.out.2).mono ?_
    rintro e w5 ⟨rfl,b5⟩
    have k9:=k9.bm b5
    have B9:=bc b5 B9
    have f9:=k9.frozen 0
    have x9:=k9.cell 0
    simp at x9
    clear b5 O3
    go_wp2_with fail
    have kf:=k9.fz 0 (.slice none 0 0)
    have Bf:=B9.setCell (p:=⟨w.heap.size,0,none⟩) (by simp) (.slice none 0 0)
    generalize w5.setCell ⟨w.heap.size,0,none⟩ (.slice none 0 0)=wf at *
    simp at kf
    have e0:=kf.cell 0
    simp at e0
    refine bodyPost_ret (v:= .tuple #[.agg #[.slice none 0 0], .int .i64 3]) (by simp [results,Try.f7,go_sem,e0]) rfl ⟨_,by rw [HC.out.1], ?_,Bf⟩
    rw [HC.out.2]
    exact ⟨none,0,0, [],rfl,eT.dD (Own.iX _ _ _) (fun g hg=>by cases hg)⟩
  ·have HC:=Lib.hid (AA HD.out hw)
   have hne:(lu (aS zs) ws != 0)=true:=by simp;exact hw
   clear hw
   go_enter Try.func7,Try.ntmps7
   go_wp2_with fail
   refine (iK ao n c zs _ HH.out.1).mono ?_
   rintro e w1 ⟨rfl,b1⟩
   rw [HD.out]
   have K1:=Lib.hid (HK0.out.1.bm b1)
   have B1:=Lib.hid (bc b1 HK0.out.2)
   have I1:=Lib.hid (And.intro (HH.out.1.below b1) (HH.out.2.below b1))
   clear b1
   go_wp2_with fail
   refine (jD ao n c zs _ I1.out.1 HDB.out.2 HDB.out.1).mono ?_
   rintro e w2 ⟨v2,rfl,o2,b2⟩
   have K2:=Lib.hid (K1.out.bm b2)
   have B2:=Lib.hid (bc b2 B1.out)
   have I2:=Lib.hid (I1.out.2.below b2)
   clear b2
   go_wp2_with fail
   refine (mg bo m c2 ws _ o2.rd I2.out).mono ?_
   rintro e w3 ⟨v3,rfl,o3,b3⟩
   obtain ⟨a3,n3,c3,rfl⟩:=o3.form
   have k9:=(K2.out.bm b3).alloc (.cells #[.int .i64 (kT (aS zs) ws).1, .slice a3 n3 c3] 34)
   have B9:=(bc b3 B2.out).alloc (bc b3 B2.out).size (.cells #[.int .i64 (kT (aS zs) ws).1, .slice a3 n3 c3] 34)
   have O3:=Lib.hid (o3.below (below_alloc1 w3 (.cells #[.int .i64 (kT (aS zs) ws).1, .slice a3 n3 c3] 34)))
   clear b3 o2
   clear o3 O3
   have f9:=k9.frozen 0
   have x9:=k9.cell 0
   simp at x9
   go_wp2_with fail
   have kf:=k9.fz 0 (.slice none 0 0)
   have Bf:=B9.setCell (p:=⟨w.heap.size,0,none⟩) (by simp) (.slice none 0 0)
   generalize (w3.alloc (.cells #[.int .i64 (kT (aS zs) ws).1, .slice a3 n3 c3] 34)).setCell ⟨w.heap.size,0,none⟩ (.slice none 0 0)=wf at *
   simp at kf
   have e0:=kf.cell 0
   simp at e0
   refine bodyPost_ret (v:= .tuple #[.agg #[.slice none 0 0], .int .i64 (lu (aS zs) ws)]) (by simp [results,Try.f7,go_sem,e0]) rfl ⟨_,by rw [HC.out.1], ?_,Bf⟩
   rw [HC.out.2]
   exact ⟨none,0,0, [],rfl,eT.dD (Own.iX _ _ _) (fun g hg=>by cases hg)⟩
theorem wI (ao bo:Option Addr) (n c m c2:Nat) (zs:List Int) (ws:List (List Int)) (w:World) (h:cW w ao n zs) (h':ep w bo m ws):
  Calls Try.prog 6 #[.slice ao n c, .slice bo m c2] w fun e w'=>∃v,e= .returned (.tuple #[v, .int .i64 (fy zs ws)])∧sQ 2 24 w' w.heap.size w'.heap.size v (eB zs ws)∧Below w.heap.size w w':=by
 have k0:dQ (w.alloc (.cells #[.slice none 0 0] 29)) w.heap.size 29 #[.slice none 0 0]:=bS rfl
 have hb0:=below_alloc1 w (.cells #[.slice none 0 0] 29)
 have h1:=h.below hb0
 have h2:=h'.below hb0
 cases hD:cK zs with
 | false=>
  have HC:=Lib.hid (zG (ws:=ws) hD)
  have HD:=Lib.hid hD
  clear hD
  go_enter Try.func6,Try.ntmps6
  go_wp2_with fail
  refine (cQ ao n c zs _ h1).mono ?_
  rintro e w1 ⟨rfl,b1⟩
  rw [HD.out]
  have k9:=k0.bm b1
  have B9:=bc b1 hb0
  clear h h' h1 h2 k0 b1
  have f9:=k9.frozen 0
  have x9:=k9.cell 0
  simp at x9
  go_wp2_with fail
  have kf:=k9.fz 0 (.slice none 0 0)
  have Bf:=B9.setCell (p:=⟨w.heap.size,0,none⟩) (by simp) (.slice none 0 0)
  generalize w1.setCell ⟨w.heap.size,0,none⟩ (.slice none 0 0)=wf at *
  simp at kf
  have e0:=kf.cell 0
  simp at e0
  refine bodyPost_ret (v:= .tuple #[.agg #[.slice none 0 0], .int .i64 1]) (by simp [results,Try.f6,go_sem,e0]) rfl ⟨_,by rw [HC.out.1], ?_,Bf⟩
  rw [HC.out.2]
  exact ⟨none,0,0, [],rfl,eT.dD (Own.iX _ _ _) (fun g hg=>by cases hg)⟩
 | true=>
  obtain ⟨hd1,hd2⟩:=mf hD
  rw [h.1] at hd1 hd2
  have HDB:=Lib.hid (And.intro hd1 hd2)
  have HH:=Lib.hid (And.intro h1 h2)
  have HK0:=Lib.hid (And.intro k0 hb0)
  have HD:=Lib.hid hD
  clear h h' h1 h2 k0 hb0 hD hd1 hd2
  cases hok:dP (aS zs) ws with
  | false=>
   have hw1:lu (aS zs) ws=1:=by unfold lu;rw [hok];rfl
   have HC:=Lib.hid (AA HD.out (by rw [hw1];decide))
   rw [hw1] at HC
   have HWC:Hid (eN (aS zs) ws=1):=Lib.hid (by unfold eN;rw [hok];rfl)
   clear hok hw1
   go_enter Try.func6,Try.ntmps6
   go_wp2_with fail
   refine (cQ ao n c zs _ HH.out.1).mono ?_
   rintro e w1 ⟨rfl,b1⟩
   rw [HD.out]
   have K1:=Lib.hid (HK0.out.1.bm b1)
   have B1:=Lib.hid (bc b1 HK0.out.2)
   have I1:=Lib.hid (And.intro (HH.out.1.below b1) (HH.out.2.below b1))
   clear b1
   go_wp2_with fail
   refine (gF ao n c zs _ I1.out.1 HDB.out.2 HDB.out.1).mono ?_
   rintro e w2 ⟨v2,rfl,o2,b2⟩
   have K2:=Lib.hid (K1.out.bm b2)
   have B2:=Lib.hid (bc b2 B1.out)
   have I2:=Lib.hid (I1.out.2.below b2)
   obtain ⟨a2,n2,c2',rfl⟩:=o2.form
   have kp:=(bS (w:=w2) (t:=34) (cs:= #[.int .i64 (aS zs).1, .slice a2 n2 c2']) rfl)
   have hba:=below_alloc1 w2 (.cells #[.int .i64 (aS zs).1, .slice a2 n2 c2'] 34)
   have RP:=Lib.hid (o2.rd.below hba)
   have KP:=Lib.hid kp
   have K9:=Lib.hid ((K2.out).alloc (.cells #[.int .i64 (aS zs).1, .slice a2 n2 c2'] 34))
   have B9:=Lib.hid ((B2.out).alloc (B2.out).size (.cells #[.int .i64 (aS zs).1, .slice a2 n2 c2'] 34))
   have I9:=Lib.hid (I2.out.below hba)
   clear b2 o2 kp hba
   go_wp2_with fail
   refine (fg bo m c2 ws _ RP.out I9.out).mono ?_
   rintro e w5 ⟨rfl,b5⟩
   rw [HWC.out]
   have k9:=K9.out.bm b5
   have B9:=bc b5 B9.out
   have f9:=k9.frozen 0
   have x9:=k9.cell 0
   simp at x9
   clear b5
   go_wp2_with fail
   have kf:=k9.fz 0 (.slice none 0 0)
   have Bf:=B9.setCell (p:=⟨w.heap.size,0,none⟩) (by simp) (.slice none 0 0)
   generalize w5.setCell ⟨w.heap.size,0,none⟩ (.slice none 0 0)=wf at *
   simp at kf
   have e0:=kf.cell 0
   simp at e0
   refine bodyPost_ret (v:= .tuple #[.agg #[.slice none 0 0], .int .i64 1]) (by simp [results,Try.f6,go_sem,e0]) rfl ⟨_,by rw [HC.out.1], ?_,Bf⟩
   rw [HC.out.2]
   exact ⟨none,0,0, [],rfl,eT.dD (Own.iX _ _ _) (fun g hg=>by cases hg)⟩
  | true=>
   have HWC:Hid (eN (aS zs) ws=0):=Lib.hid (by unfold eN;rw [hok];rfl)
   have HOK:=Lib.hid hok
   have hwk:lu (aS zs) ws=wj ((aS zs).2 ++ ws):=by unfold lu;rw [if_pos hok]
   have HQ:Hid (zs.length + 1≤5∧(aS zs).2.length≤24∧ws.length≤24∧∀z∈(aS zs).2 ++ ws,z.length≤1000):=Lib.hid (by
    obtain ⟨hp1,hp2⟩:=iD hok
    obtain ⟨q1,q2,q3⟩:=kZ hp1
    obtain ⟨q4,q5⟩:=lL hp2
    have hd:=(mf HD.out).1
    refine ⟨ab,q1,q4,fun z hz=> ?_⟩
    rcases List.mem_append.1 hz with h | h
    ·have:=q3 z h;omega
    ·have:=q5 z h;omega)
   clear hok
   by_cases hw:lu (aS zs) ws=0
   ·have hp:=pn hw
    have HKV:Hid (wj ((aS zs).2 ++ ws)=0):=Lib.hid (by rw [←hwk];exact hw)
    clear hwk
    by_cases hs:da (dI zs ws) []=true
    ·have HT:=Lib.hid (nC (d:=dI zs ws) hp hs)
     have HN:Hid (lr (dI zs ws) []≤400):=Lib.hid (by unfold da at hs;simp at hs;exact hs.2)
     cases hM:iY (bX (dI zs ws) []) with
     | true=>
      have HC:=Lib.hid (yb HD.out hw hs hM)
      have HX:=Lib.hid (And.intro hp (And.intro hs hM))
      clear hw hp hs hM
      go_enter Try.func6,Try.ntmps6
      go_wp2_with fail
      refine (cQ ao n c zs _ HH.out.1).mono ?_
      rintro e w1 ⟨rfl,b1⟩
      rw [HD.out]
      have K1:=Lib.hid (HK0.out.1.bm b1)
      have B1:=Lib.hid (bc b1 HK0.out.2)
      have I1:=Lib.hid (And.intro (HH.out.1.below b1) (HH.out.2.below b1))
      clear b1
      go_wp2_with fail
      refine (gF ao n c zs _ I1.out.1 HDB.out.2 HDB.out.1).mono ?_
      rintro e w2 ⟨v2,rfl,o2,b2⟩
      have K2:=Lib.hid (K1.out.bm b2)
      have B2:=Lib.hid (bc b2 B1.out)
      have I2:=Lib.hid (I1.out.2.below b2)
      obtain ⟨a2,n2,c2',rfl⟩:=o2.form
      have kp:=(bS (w:=w2) (t:=34) (cs:= #[.int .i64 (aS zs).1, .slice a2 n2 c2']) rfl)
      have hba:=below_alloc1 w2 (.cells #[.int .i64 (aS zs).1, .slice a2 n2 c2'] 34)
      have RP:=Lib.hid (o2.rd.below hba)
      have KP:=Lib.hid kp
      have K9:=Lib.hid ((K2.out).alloc (.cells #[.int .i64 (aS zs).1, .slice a2 n2 c2'] 34))
      have B9:=Lib.hid ((B2.out).alloc (B2.out).size (.cells #[.int .i64 (aS zs).1, .slice a2 n2 c2'] 34))
      have I9:=Lib.hid (I2.out.below hba)
      clear b2 o2 kp hba
      go_wp2_with fail
      refine (fg bo m c2 ws _ RP.out I9.out).mono ?_
      rintro e w5 ⟨rfl,b5⟩
      rw [HWC.out]
      have K5:=Lib.hid (K9.out.bm b5)
      have kp5:=KP.out.bm b5
      have z0:=kp5.cell 0
      have z1:=kp5.cell 1
      simp at z0 z1
      have KP5:=Lib.hid kp5
      have B5:=Lib.hid (bc b5 B9.out)
      have R5:=Lib.hid (And.intro (RP.out.below b5) (I9.out.below b5))
      clear b5 kp5
      go_wp2_with fail
      obtain ⟨ar,nr,cr,er,hr⟩:=R5.out.1
      simp at er
      obtain ⟨rfl,rfl,rfl⟩:=er
      have hrl:=hr.1
      have hil:=R5.out.2.1
      have hN:(aS zs).1=((zs.length + 1:Nat):Int):=rfl
      rw [hN]
      refine (ko (zs.length + 1) HQ.out.1 a2 bo n2 c2' m c2 (aS zs).2 ws _ hr R5.out.2 (by have:=HQ.out.2.1;omega) (by have:=HQ.out.2.2.1;omega) HQ.out.2.2.2).mono ?_
      rintro e w6 ⟨v6,rfl,⟨a6,n6',c6',us6,rfl,o6⟩,b6⟩
      rw [HKV.out]
      have k6:=K5.out.bm b6
      have kp6:=KP5.out.bm b6
      have y0:=kp6.cell 0
      have y1:=kp6.cell 1
      have g0:=kp6.frozen 0
      have g1:=kp6.frozen 1
      simp at y0 y1
      have hlt6:=K5.out.lt
      have hltp:=KP5.out.lt
      have hwp:w.heap.size < w2.heap.size:=K2.out.lt
      have hs6:=b6.size
      have B6:=bc b6 B5.out
      obtain ⟨D,hD2⟩:∃D,D=vL ((zs.length + 1:Nat):Int) ((aS zs).2 ++ ws):=⟨_,rfl⟩
      rw [←hD2] at o6 ⊢
      have HDD:=Lib.hid hD2
      have f6:=k6.frozen 0
      have x6r:=k6.cell 0
      simp at x6r
      clear b6 hD2 hr hN hrl hil z0 z1
      have k9:=(k6.wV (p:=⟨w2.heap.size,0,none⟩) (by simp;omega) (.int .i64 D.1)).wV (p:=⟨w2.heap.size,1,none⟩) (by simp;omega) (.slice a6 n6' c6')
      have B9:=(B6.setCell (p:=⟨w2.heap.size,0,none⟩) (by simp;omega) (.int .i64 D.1)).setCell (p:=⟨w2.heap.size,1,none⟩) (by simp;omega) (.slice a6 n6' c6')
      have ho:eT (jV 2) ((w6.setCell ⟨w2.heap.size,0,none⟩ (.int .i64 D.1)).setCell ⟨w2.heap.size,1,none⟩ (.slice a6 n6' c6')) w5.heap.size w6.heap.size 24 a6 n6' c6' us6 D.2:=o6.same (cJ _) fun g h1 _ _=>by rw [Below.heap_setCell _ _ _ _ (by simp;omega),Below.heap_setCell _ _ _ _ (by simp;omega)]
      have O3:Hid (oN 2 24 ((w6.setCell ⟨w2.heap.size,0,none⟩ (.int .i64 D.1)).setCell ⟨w2.heap.size,1,none⟩ (.slice a6 n6' c6')) w5.heap.size w6.heap.size (.agg #[.int .i64 D.1, .slice a6 n6' c6']) (dI zs ws)):=Lib.hid (by
       have e:dI zs ws=D:=by unfold dI kT;rw [if_pos HOK.out,HDD.out];rfl
       rw [e];exact ⟨a6,n6',c6',us6,rfl,ho⟩)
      clear ho o6
      go_wp2_with fail
      clear k6 kp6 y0 y1 g0 g1 f6 x6r B6 hlt6 hs6
      generalize (w6.setCell ⟨w2.heap.size,0,none⟩ (.int .i64 D.1)).setCell ⟨w2.heap.size,1,none⟩ (.slice a6 n6' c6')=w4 at *
      have hw4:=k9.lt
      refine (lJ (d:=dI zs ws) w4 O3.out HX.out.1 HX.out.2.1).mono ?_
      rintro e w5 ⟨v5,rfl,⟨a5,n5,c5,us5,rfl,o5⟩,b5⟩
      have k9:=k9.bm b5
      have B9:=bc b5 B9
      have hs5:=b5.size
      have hlt9:=k9.lt
      have hl5:=o5.len
      have hpos:0 < n5:=by have:=HT.out.2.1;omega
      obtain ⟨g5,rfl, -, -, -, -, -⟩:=o5.own.form hpos
      obtain ⟨u0,d0,hu0,hd0,⟨a6,n6,c6,rfl,o6⟩, -⟩:=o5.get hpos
      have x6:=o5.cell hu0
      have hn6:n6≤400:=by
       have h1:=o6.len
       have h2:=HT.out.2.2.2 0 HT.out.2.1
       rw [hU hd0] at h2
       have h3:=HN.out
       simp at h1
       omega
      have hg6:decide ((n6:Int) > 400)=false:=by simp;omega
      have hp0:(0:Int) < (n5:Int):=by omega
      have O5:=Lib.hid o5
      have HL5:=Lib.hid hl5
      have hkb:=below_alloc1 w5 (.cells #[.slice (some ⟨g5,0,none⟩) n5 c5] 29)
      have HKB:=Lib.hid hkb
      clear b5 O3 o5 o6 hu0 hd0 hn6 hkb hl5
      go_wp2_with fail
      refine (wJ (d:=bX (dI zs ws) []) _ (⟨some ⟨g5,0,none⟩,n5,c5,us5,rfl,(O5.out.below (cJ _) HKB.out)⟩:sQ 2 24 _ w4.heap.size w5.heap.size _ _) (by have:=HT.out.2.2.1;omega) (fun i hi=>by have h1:=HT.out.2.2.2 i hi;have h2:=HN.out;omega)).mono ?_
      rintro e w7 ⟨rfl,b7⟩
      rw [HX.out.2.2]
      have k9:=(k9.alloc (.cells #[.slice (some ⟨g5,0,none⟩) n5 c5] 29)).bm b7
      have B9:=bc b7 (bc HKB.out B9)
      have xb:=((bS (w:=w5) (t:=29) (cs:= #[.slice (some ⟨g5,0,none⟩) n5 c5]) rfl).bm b7).cell 0
      have O7:=Lib.hid (O5.out.below (cJ _) (bc b7 HKB.out))
      have hs7:=(bc b7 HKB.out).size
      have f9:=k9.frozen 0
      have x9:=k9.cell 0
      simp at x9 xb
      clear b7 x6
      go_wp2_with fail
      have kf:=k9.fz 0 (.slice (some ⟨g5,0,none⟩) n5 c5)
      have Bf:=B9.setCell (p:=⟨w.heap.size,0,none⟩) (by simp) (.slice (some ⟨g5,0,none⟩) n5 c5)
      have hh:(w7.setCell ⟨w.heap.size,0,none⟩ (.slice (some ⟨g5,0,none⟩) n5 c5)).heap.size=w7.heap.size:=by simp [World.setCell]
      have of:eT (jV 2) (w7.setCell ⟨w.heap.size,0,none⟩ (.slice (some ⟨g5,0,none⟩) n5 c5)) w4.heap.size (w7.setCell ⟨w.heap.size,0,none⟩ (.slice (some ⟨g5,0,none⟩) n5 c5)).heap.size 24 (some ⟨g5,0,none⟩) n5 c5 us5 (bX (dI zs ws) []):=by
       rw [hh]
       exact (O7.out.same (cJ _) fun g h1 _ _=>Below.heap_setCell _ _ _ _ (by simp;omega)).mono (Nat.le_refl _) hs7
      clear hh
      generalize w7.setCell ⟨w.heap.size,0,none⟩ (.slice (some ⟨g5,0,none⟩) n5 c5)=wf at *
      simp at kf
      have e0:=kf.cell 0
      simp at e0
      refine bodyPost_ret (v:= .tuple #[.agg #[.slice (some ⟨g5,0,none⟩) n5 c5], .int .i64 0]) (by simp [results,Try.f6,go_sem,e0]) rfl ⟨_,by rw [HC.out.1], ?_,Bf⟩
      rw [HC.out.2]
      exact ⟨_,n5,c5,us5,rfl,of.mono ab (Nat.le_refl _)⟩
     | false=>
      have HC:=Lib.hid (Ay HD.out hw hs hM)
      have HX:=Lib.hid (And.intro hp (And.intro hs hM))
      clear hw hp hs hM
      go_enter Try.func6,Try.ntmps6
      go_wp2_with fail
      refine (cQ ao n c zs _ HH.out.1).mono ?_
      rintro e w1 ⟨rfl,b1⟩
      rw [HD.out]
      have K1:=Lib.hid (HK0.out.1.bm b1)
      have B1:=Lib.hid (bc b1 HK0.out.2)
      have I1:=Lib.hid (And.intro (HH.out.1.below b1) (HH.out.2.below b1))
      clear b1
      go_wp2_with fail
      refine (gF ao n c zs _ I1.out.1 HDB.out.2 HDB.out.1).mono ?_
      rintro e w2 ⟨v2,rfl,o2,b2⟩
      have K2:=Lib.hid (K1.out.bm b2)
      have B2:=Lib.hid (bc b2 B1.out)
      have I2:=Lib.hid (I1.out.2.below b2)
      obtain ⟨a2,n2,c2',rfl⟩:=o2.form
      have kp:=(bS (w:=w2) (t:=34) (cs:= #[.int .i64 (aS zs).1, .slice a2 n2 c2']) rfl)
      have hba:=below_alloc1 w2 (.cells #[.int .i64 (aS zs).1, .slice a2 n2 c2'] 34)
      have RP:=Lib.hid (o2.rd.below hba)
      have KP:=Lib.hid kp
      have K9:=Lib.hid ((K2.out).alloc (.cells #[.int .i64 (aS zs).1, .slice a2 n2 c2'] 34))
      have B9:=Lib.hid ((B2.out).alloc (B2.out).size (.cells #[.int .i64 (aS zs).1, .slice a2 n2 c2'] 34))
      have I9:=Lib.hid (I2.out.below hba)
      clear b2 o2 kp hba
      go_wp2_with fail
      refine (fg bo m c2 ws _ RP.out I9.out).mono ?_
      rintro e w5 ⟨rfl,b5⟩
      rw [HWC.out]
      have K5:=Lib.hid (K9.out.bm b5)
      have kp5:=KP.out.bm b5
      have z0:=kp5.cell 0
      have z1:=kp5.cell 1
      simp at z0 z1
      have KP5:=Lib.hid kp5
      have B5:=Lib.hid (bc b5 B9.out)
      have R5:=Lib.hid (And.intro (RP.out.below b5) (I9.out.below b5))
      clear b5 kp5
      go_wp2_with fail
      obtain ⟨ar,nr,cr,er,hr⟩:=R5.out.1
      simp at er
      obtain ⟨rfl,rfl,rfl⟩:=er
      have hrl:=hr.1
      have hil:=R5.out.2.1
      have hN:(aS zs).1=((zs.length + 1:Nat):Int):=rfl
      rw [hN]
      refine (ko (zs.length + 1) HQ.out.1 a2 bo n2 c2' m c2 (aS zs).2 ws _ hr R5.out.2 (by have:=HQ.out.2.1;omega) (by have:=HQ.out.2.2.1;omega) HQ.out.2.2.2).mono ?_
      rintro e w6 ⟨v6,rfl,⟨a6,n6',c6',us6,rfl,o6⟩,b6⟩
      rw [HKV.out]
      have k6:=K5.out.bm b6
      have kp6:=KP5.out.bm b6
      have y0:=kp6.cell 0
      have y1:=kp6.cell 1
      have g0:=kp6.frozen 0
      have g1:=kp6.frozen 1
      simp at y0 y1
      have hlt6:=K5.out.lt
      have hltp:=KP5.out.lt
      have hwp:w.heap.size < w2.heap.size:=K2.out.lt
      have hs6:=b6.size
      have B6:=bc b6 B5.out
      obtain ⟨D,hD2⟩:∃D,D=vL ((zs.length + 1:Nat):Int) ((aS zs).2 ++ ws):=⟨_,rfl⟩
      rw [←hD2] at o6 ⊢
      have HDD:=Lib.hid hD2
      have f6:=k6.frozen 0
      have x6r:=k6.cell 0
      simp at x6r
      clear b6 hD2 hr hN hrl hil z0 z1
      have k9:=(k6.wV (p:=⟨w2.heap.size,0,none⟩) (by simp;omega) (.int .i64 D.1)).wV (p:=⟨w2.heap.size,1,none⟩) (by simp;omega) (.slice a6 n6' c6')
      have B9:=(B6.setCell (p:=⟨w2.heap.size,0,none⟩) (by simp;omega) (.int .i64 D.1)).setCell (p:=⟨w2.heap.size,1,none⟩) (by simp;omega) (.slice a6 n6' c6')
      have ho:eT (jV 2) ((w6.setCell ⟨w2.heap.size,0,none⟩ (.int .i64 D.1)).setCell ⟨w2.heap.size,1,none⟩ (.slice a6 n6' c6')) w5.heap.size w6.heap.size 24 a6 n6' c6' us6 D.2:=o6.same (cJ _) fun g h1 _ _=>by rw [Below.heap_setCell _ _ _ _ (by simp;omega),Below.heap_setCell _ _ _ _ (by simp;omega)]
      have O3:Hid (oN 2 24 ((w6.setCell ⟨w2.heap.size,0,none⟩ (.int .i64 D.1)).setCell ⟨w2.heap.size,1,none⟩ (.slice a6 n6' c6')) w5.heap.size w6.heap.size (.agg #[.int .i64 D.1, .slice a6 n6' c6']) (dI zs ws)):=Lib.hid (by
       have e:dI zs ws=D:=by unfold dI kT;rw [if_pos HOK.out,HDD.out];rfl
       rw [e];exact ⟨a6,n6',c6',us6,rfl,ho⟩)
      clear ho o6
      go_wp2_with fail
      clear k6 kp6 y0 y1 g0 g1 f6 x6r B6 hlt6 hs6
      generalize (w6.setCell ⟨w2.heap.size,0,none⟩ (.int .i64 D.1)).setCell ⟨w2.heap.size,1,none⟩ (.slice a6 n6' c6')=w4 at *
      have hw4:=k9.lt
      refine (lJ (d:=dI zs ws) w4 O3.out HX.out.1 HX.out.2.1).mono ?_
      rintro e w5 ⟨v5,rfl,⟨a5,n5,c5,us5,rfl,o5⟩,b5⟩
      have k9:=k9.bm b5
      have B9:=bc b5 B9
      have hs5:=b5.size
      have hlt9:=k9.lt
      have hl5:=o5.len
      have hpos:0 < n5:=by have:=HT.out.2.1;omega
      obtain ⟨g5,rfl, -, -, -, -, -⟩:=o5.own.form hpos
      obtain ⟨u0,d0,hu0,hd0,⟨a6,n6,c6,rfl,o6⟩, -⟩:=o5.get hpos
      have x6:=o5.cell hu0
      have hn6:n6≤400:=by
       have h1:=o6.len
       have h2:=HT.out.2.2.2 0 HT.out.2.1
       rw [hU hd0] at h2
       have h3:=HN.out
       simp at h1
       omega
      have hg6:decide ((n6:Int) > 400)=false:=by simp;omega
      have hp0:(0:Int) < (n5:Int):=by omega
      have O5:=Lib.hid o5
      have HL5:=Lib.hid hl5
      have hkb:=below_alloc1 w5 (.cells #[.slice (some ⟨g5,0,none⟩) n5 c5] 29)
      have HKB:=Lib.hid hkb
      clear b5 O3 o5 o6 hu0 hd0 hn6 hkb hl5
      go_wp2_with fail
      refine (wJ (d:=bX (dI zs ws) []) _ (⟨some ⟨g5,0,none⟩,n5,c5,us5,rfl,(O5.out.below (cJ _) HKB.out)⟩:sQ 2 24 _ w4.heap.size w5.heap.size _ _) (by have:=HT.out.2.2.1;omega) (fun i hi=>by have h1:=HT.out.2.2.2 i hi;have h2:=HN.out;omega)).mono ?_
      rintro e w7 ⟨rfl,b7⟩
      rw [HX.out.2.2]
      have k9:=(k9.alloc (.cells #[.slice (some ⟨g5,0,none⟩) n5 c5] 29)).bm b7
      have B9:=bc b7 (bc HKB.out B9)
      have xb:=((bS (w:=w5) (t:=29) (cs:= #[.slice (some ⟨g5,0,none⟩) n5 c5]) rfl).bm b7).cell 0
      have O7:=Lib.hid (O5.out.below (cJ _) (bc b7 HKB.out))
      have hs7:=(bc b7 HKB.out).size
      have f9:=k9.frozen 0
      have x9:=k9.cell 0
      simp at x9 xb
      clear b7 x6
      go_wp2_with fail
      have kf:=k9.fz 0 (.slice none 0 0)
      have Bf:=B9.setCell (p:=⟨w.heap.size,0,none⟩) (by simp) (.slice none 0 0)
      generalize w7.setCell ⟨w.heap.size,0,none⟩ (.slice none 0 0)=wf at *
      simp at kf
      have e0:=kf.cell 0
      simp at e0
      refine bodyPost_ret (v:= .tuple #[.agg #[.slice none 0 0], .int .i64 5]) (by simp [results,Try.f6,go_sem,e0]) rfl ⟨_,by rw [HC.out.1], ?_,Bf⟩
      rw [HC.out.2]
      exact ⟨none,0,0, [],rfl,eT.dD (Own.iX _ _ _) (fun g hg=>by cases hg)⟩
    ·have HC:=Lib.hid (xW HD.out hw hs)
     have HX:=Lib.hid (And.intro hp hs)
     clear hw hp hs
     go_enter Try.func6,Try.ntmps6
     go_wp2_with fail
     refine (cQ ao n c zs _ HH.out.1).mono ?_
     rintro e w1 ⟨rfl,b1⟩
     rw [HD.out]
     have K1:=Lib.hid (HK0.out.1.bm b1)
     have B1:=Lib.hid (bc b1 HK0.out.2)
     have I1:=Lib.hid (And.intro (HH.out.1.below b1) (HH.out.2.below b1))
     clear b1
     go_wp2_with fail
     refine (gF ao n c zs _ I1.out.1 HDB.out.2 HDB.out.1).mono ?_
     rintro e w2 ⟨v2,rfl,o2,b2⟩
     have K2:=Lib.hid (K1.out.bm b2)
     have B2:=Lib.hid (bc b2 B1.out)
     have I2:=Lib.hid (I1.out.2.below b2)
     obtain ⟨a2,n2,c2',rfl⟩:=o2.form
     have kp:=(bS (w:=w2) (t:=34) (cs:= #[.int .i64 (aS zs).1, .slice a2 n2 c2']) rfl)
     have hba:=below_alloc1 w2 (.cells #[.int .i64 (aS zs).1, .slice a2 n2 c2'] 34)
     have RP:=Lib.hid (o2.rd.below hba)
     have KP:=Lib.hid kp
     have K9:=Lib.hid ((K2.out).alloc (.cells #[.int .i64 (aS zs).1, .slice a2 n2 c2'] 34))
     have B9:=Lib.hid ((B2.out).alloc (B2.out).size (.cells #[.int .i64 (aS zs).1, .slice a2 n2 c2'] 34))
     have I9:=Lib.hid (I2.out.below hba)
     clear b2 o2 kp hba
     go_wp2_with fail
     refine (fg bo m c2 ws _ RP.out I9.out).mono ?_
     rintro e w5 ⟨rfl,b5⟩
     rw [HWC.out]
     have K5:=Lib.hid (K9.out.bm b5)
     have kp5:=KP.out.bm b5
     have z0:=kp5.cell 0
     have z1:=kp5.cell 1
     simp at z0 z1
     have KP5:=Lib.hid kp5
     have B5:=Lib.hid (bc b5 B9.out)
     have R5:=Lib.hid (And.intro (RP.out.below b5) (I9.out.below b5))
     clear b5 kp5
     go_wp2_with fail
     obtain ⟨ar,nr,cr,er,hr⟩:=R5.out.1
     simp at er
     obtain ⟨rfl,rfl,rfl⟩:=er
     have hrl:=hr.1
     have hil:=R5.out.2.1
     have hN:(aS zs).1=((zs.length + 1:Nat):Int):=rfl
     rw [hN]
     refine (ko (zs.length + 1) HQ.out.1 a2 bo n2 c2' m c2 (aS zs).2 ws _ hr R5.out.2 (by have:=HQ.out.2.1;omega) (by have:=HQ.out.2.2.1;omega) HQ.out.2.2.2).mono ?_
     rintro e w6 ⟨v6,rfl,⟨a6,n6',c6',us6,rfl,o6⟩,b6⟩
     rw [HKV.out]
     have k6:=K5.out.bm b6
     have kp6:=KP5.out.bm b6
     have y0:=kp6.cell 0
     have y1:=kp6.cell 1
     have g0:=kp6.frozen 0
     have g1:=kp6.frozen 1
     simp at y0 y1
     have hlt6:=K5.out.lt
     have hltp:=KP5.out.lt
     have hwp:w.heap.size < w2.heap.size:=K2.out.lt
     have hs6:=b6.size
     have B6:=bc b6 B5.out
     obtain ⟨D,hD2⟩:∃D,D=vL ((zs.length + 1:Nat):Int) ((aS zs).2 ++ ws):=⟨_,rfl⟩
     rw [←hD2] at o6 ⊢
     have HDD:=Lib.hid hD2
     have f6:=k6.frozen 0
     have x6r:=k6.cell 0
     simp at x6r
     clear b6 hD2 hr hN hrl hil z0 z1
     have k9:=(k6.wV (p:=⟨w2.heap.size,0,none⟩) (by simp;omega) (.int .i64 D.1)).wV (p:=⟨w2.heap.size,1,none⟩) (by simp;omega) (.slice a6 n6' c6')
     have B9:=(B6.setCell (p:=⟨w2.heap.size,0,none⟩) (by simp;omega) (.int .i64 D.1)).setCell (p:=⟨w2.heap.size,1,none⟩) (by simp;omega) (.slice a6 n6' c6')
     have ho:eT (jV 2) ((w6.setCell ⟨w2.heap.size,0,none⟩ (.int .i64 D.1)).setCell ⟨w2.heap.size,1,none⟩ (.slice a6 n6' c6')) w5.heap.size w6.heap.size 24 a6 n6' c6' us6 D.2:=o6.same (cJ _) fun g h1 _ _=>by rw [Below.heap_setCell _ _ _ _ (by simp;omega),Below.heap_setCell _ _ _ _ (by simp;omega)]
     have O3:Hid (oN 2 24 ((w6.setCell ⟨w2.heap.size,0,none⟩ (.int .i64 D.1)).setCell ⟨w2.heap.size,1,none⟩ (.slice a6 n6' c6')) w5.heap.size w6.heap.size (.agg #[.int .i64 D.1, .slice a6 n6' c6']) (dI zs ws)):=Lib.hid (by
      have e:dI zs ws=D:=by unfold dI kT;rw [if_pos HOK.out,HDD.out];rfl
      rw [e];exact ⟨a6,n6',c6',us6,rfl,ho⟩)
     clear ho o6
     go_wp2_with fail
     clear k6 kp6 y0 y1 g0 g1 f6 x6r B6 hlt6 hs6
     generalize (w6.setCell ⟨w2.heap.size,0,none⟩ (.int .i64 D.1)).setCell ⟨w2.heap.size,1,none⟩ (.slice a6 n6' c6')=w4 at *
     refine (sF (d:=dI zs ws) w4 O3.out HX.out.1 HX.out.2).mono ?_
     rintro e w5 ⟨rfl,b5⟩
     have k9:=(k9.bm b5).alloc (.cells #[.slice none 0 0] 29)
     have B9:=(bc b5 B9).alloc (bc b5 B9).size (.cells #[.slice none 0 0] 29)
     have f9:=k9.frozen 0
     have x9:=k9.cell 0
     simp at x9
     clear b5 O3
     go_wp2_with fail
     have kf:=k9.fz 0 (.slice none 0 0)
     have Bf:=B9.setCell (p:=⟨w.heap.size,0,none⟩) (by simp) (.slice none 0 0)
     generalize (w5.alloc (.cells #[.slice none 0 0] 29)).setCell ⟨w.heap.size,0,none⟩ (.slice none 0 0)=wf at *
     simp at kf
     have e0:=kf.cell 0
     simp at e0
     refine bodyPost_ret (v:= .tuple #[.agg #[.slice none 0 0], .int .i64 3]) (by simp [results,Try.f6,go_sem,e0]) rfl ⟨_,by rw [HC.out.1], ?_,Bf⟩
     rw [HC.out.2]
     exact ⟨none,0,0, [],rfl,eT.dD (Own.iX _ _ _) (fun g hg=>by cases hg)⟩
   ·have HK3:wj ((aS zs).2 ++ ws)=3:=by rw [hwk] at hw;unfold wj at hw ⊢;split at hw;exact absurd rfl hw;rename_i h24;rw [if_neg h24]
    have HC:=Lib.hid (AA HD.out hw)
    rw [hwk,HK3] at HC
    have HKV:=Lib.hid HK3
    clear hw hwk HK3
    go_enter Try.func6,Try.ntmps6
    go_wp2_with fail
    refine (cQ ao n c zs _ HH.out.1).mono ?_
    rintro e w1 ⟨rfl,b1⟩
    rw [HD.out]
    have K1:=Lib.hid (HK0.out.1.bm b1)
    have B1:=Lib.hid (bc b1 HK0.out.2)
    have I1:=Lib.hid (And.intro (HH.out.1.below b1) (HH.out.2.below b1))
    clear b1
    go_wp2_with fail
    refine (gF ao n c zs _ I1.out.1 HDB.out.2 HDB.out.1).mono ?_
    rintro e w2 ⟨v2,rfl,o2,b2⟩
    have K2:=Lib.hid (K1.out.bm b2)
    have B2:=Lib.hid (bc b2 B1.out)
    have I2:=Lib.hid (I1.out.2.below b2)
    obtain ⟨a2,n2,c2',rfl⟩:=o2.form
    have kp:=(bS (w:=w2) (t:=34) (cs:= #[.int .i64 (aS zs).1, .slice a2 n2 c2']) rfl)
    have hba:=below_alloc1 w2 (.cells #[.int .i64 (aS zs).1, .slice a2 n2 c2'] 34)
    have RP:=Lib.hid (o2.rd.below hba)
    have KP:=Lib.hid kp
    have K9:=Lib.hid ((K2.out).alloc (.cells #[.int .i64 (aS zs).1, .slice a2 n2 c2'] 34))
    have B9:=Lib.hid ((B2.out).alloc (B2.out).size (.cells #[.int .i64 (aS zs).1, .slice a2 n2 c2'] 34))
    have I9:=Lib.hid (I2.out.below hba)
    clear b2 o2 kp hba
    go_wp2_with fail
    refine (fg bo m c2 ws _ RP.out I9.out).mono ?_
    rintro e w5 ⟨rfl,b5⟩
    rw [HWC.out]
    have K5:=Lib.hid (K9.out.bm b5)
    have kp5:=KP.out.bm b5
    have z0:=kp5.cell 0
    have z1:=kp5.cell 1
    simp at z0 z1
    have KP5:=Lib.hid kp5
    have B5:=Lib.hid (bc b5 B9.out)
    have R5:=Lib.hid (And.intro (RP.out.below b5) (I9.out.below b5))
    clear b5 kp5
    go_wp2_with fail
    obtain ⟨ar,nr,cr,er,hr⟩:=R5.out.1
    simp at er
    obtain ⟨rfl,rfl,rfl⟩:=er
    have hrl:=hr.1
    have hil:=R5.out.2.1
    have hN:(aS zs).1=((zs.length + 1:Nat):Int):=rfl
    rw [hN]
    refine (ko (zs.length + 1) HQ.out.1 a2 bo n2 c2' m c2 (aS zs).2 ws _ hr R5.out.2 (by have:=HQ.out.2.1;omega) (by have:=HQ.out.2.2.1;omega) HQ.out.2.2.2).mono ?_
    rintro e w6 ⟨v6,rfl,⟨a6,n6',c6',us6,rfl,o6⟩,b6⟩
    rw [HKV.out]
    have k6:=K5.out.bm b6
    have kp6:=KP5.out.bm b6
    have y0:=kp6.cell 0
    have y1:=kp6.cell 1
    have g0:=kp6.frozen 0
    have g1:=kp6.frozen 1
    simp at y0 y1
    have hlt6:=K5.out.lt
    have hltp:=KP5.out.lt
    have hwp:w.heap.size < w2.heap.size:=K2.out.lt
    have hs6:=b6.size
    have B6:=bc b6 B5.out
    obtain ⟨D,hD2⟩:∃D,D=vL ((zs.length + 1:Nat):Int) ((aS zs).2 ++ ws):=⟨_,rfl⟩
    rw [←hD2] at o6 ⊢
    have HDD:=Lib.hid hD2
    have f6:=k6.frozen 0
    have x6r:=k6.cell 0
    simp at x6r
    clear b6 hD2 hr hN hrl hil z0 z1
    have k9:=(k6.wV (p:=⟨w2.heap.size,0,none⟩) (by simp;omega) (.int .i64 D.1)).wV (p:=⟨w2.heap.size,1,none⟩) (by simp;omega) (.slice a6 n6' c6')
    have B9:=(B6.setCell (p:=⟨w2.heap.size,0,none⟩) (by simp;omega) (.int .i64 D.1)).setCell (p:=⟨w2.heap.size,1,none⟩) (by simp;omega) (.slice a6 n6' c6')
    have f9:=k9.frozen 0
    have x9:=k9.cell 0
    simp at x9
    clear o6
    go_wp2_with fail
    have kf:=k9.fz 0 (.slice none 0 0)
    have Bf:=B9.setCell (p:=⟨w.heap.size,0,none⟩) (by simp) (.slice none 0 0)
    generalize ((w6.setCell ⟨w2.heap.size,0,none⟩ (.int .i64 D.1)).setCell ⟨w2.heap.size,1,none⟩ (.slice a6 n6' c6')).setCell ⟨w.heap.size,0,none⟩ (.slice none 0 0)=wf at *
    simp at kf
    have e0:=kf.cell 0
    simp at e0
    refine bodyPost_ret (v:= .tuple #[.agg #[.slice none 0 0], .int .i64 3]) (by simp [results,Try.f6,go_sem,e0]) rfl ⟨_,by rw [HC.out.1], ?_,Bf⟩
    rw [HC.out.2]
    exact ⟨none,0,0, [],rfl,eT.dD (Own.iX _ _ _) (fun g hg=>by cases hg)⟩
end Go.Proofs.Ytfpcfckocmmcnaa
namespace Go.Proofs.Ytfpcfckocmmcnaa
open Go.RowKit
end Go.Proofs.Ytfpcfckocmmcnaa
namespace Go.Proofs.Ytfpcfckocmmcnaa
open Go.RowKit
end Go.Proofs.Ytfpcfckocmmcnaa
namespace Go.Proofs.Ytfpcfckocmmcnaa
open Go.RowKit
theorem BH {d:List (List Int)} {n:Nat} {v:Value} (w:World) (h:cM w v d) (hT:dh d n) (hB:vE d n) (hn0:0 < n) (hn:n≤1000) (hd:d.length≤1000):
  Calls Try.prog 60 #[.int .i64 n,v] w fun e w'=>∃v',e= .returned (.tuple #[v', .int .i64 ((gV d n).2:Nat)])∧ry 2 w' w.heap.size w'.heap.size v' (gV d n).1∧Below w.heap.size w w':=by
 have hl:=(Bl hT hB).1
 refine (Ga (vU d n d.length rfl hT hB hn0 ab ab) h).mono ?_
 rintro e w' ⟨v,η,ω,rfl,hde,hm,hb,hlo⟩
 obtain ⟨u,u',rfl,h1,h2⟩:=nU hde
 have h1:dm η (.sl 16 0 n) u:=h1
 have h2:u'= .int .i64 ((gV d n).2:Nat):=h2
 subst h2
 have:=I8 (x:=16) (E:=2) (zs:=(gV d n).1) hm hlo rfl (by rw [hl];exact h1) ab
 exact ⟨u,rfl,this,hb⟩
end Go.Proofs.Ytfpcfckocmmcnaa
namespace Go.Proofs.Ytfpcfckocmmcnaa
open Go.RowKit
theorem eT.II {w:World} {lo hi n c:Nat} {ao:Option Addr} {us:List Value} {ds:List (List Int)} (h:eT (jV 2) w lo hi 24 ao n c us ds):cM w (.slice ao n c) ds:=pP.II ⟨_,_,_,_,rfl,h⟩
theorem sy (mb n c:Nat) (ao:Option Addr) (d:List (List Int)) (w:World) (hm:dQ w mb 29 #[.slice ao n c]) (h:cM w (.slice ao n c) d) (hM:dW d):
  Calls Try.prog 40 #[.pointer (some ⟨mb,0,none⟩)] w fun e w'=>∃v,e= .returned (.tuple #[v, .int .i64 ((wi d).2:Nat)])∧ry 2 w' w.heap.size w'.heap.size v (wi d).1∧Below w.heap.size w w':=by
 obtain ⟨N,hN⟩:∃N,cn d=N:=⟨_,rfl⟩
 have HN:=Lib.hid hN
 have HMM:=Lib.hid hM
 have hn1:=hM.n1
 have hnl:=h.fw.1
 have hf2:2≤N:=by rw [←hN];exact hM.f2
 have hf4:N≤400:=by rw [←hN];exact hM.f4
 have HM:=Lib.hid hm
 have HR:=Lib.hid h
 have HL:=Lib.hid (hJ hM)
 have HS:=Lib.hid (Aq hM)
 have HLN:=Lib.hid (Am d d N)
 obtain ⟨R,hR⟩:∃R,wi d=R:=⟨_,rfl⟩
 have HRR:=Lib.hid (show gV (sD d d N) N=R by rw [←hN];exact hR)
 rw [hR]
 have S0:=Lib.hid (show ∀w',Below w.heap.size w w'→(Below w.heap.size w w'∧w'.cell? ⟨mb,0,none⟩=some (.slice ao n c)) from fun w' hb=>⟨hb,by have:=(hm.bm hb).cell 0;simpa using this⟩)
 have K0:=Lib.hid (S0.out w.drew (db w))
 have kd1:=Lib.hid (hm.drewN 1)
 have HRd:=Lib.hid (h.drewN 1)
 clear hm h hM hN hR
 go_enter Try.func40,Try.ntmps40
 go_upto_region 1 with fail
 go_region_held3 (fun w'=>Below w.heap.size w w'∧w'.cell? ⟨mb,0,none⟩=some (.slice ao n c)) (first | exact K0.out | exact K5.out | exact K6.out) (first
  | (go_at_call 58;refine (ib _ ao n c N d _ kd1.out HRd.out.rd ab HN.out ab).mono ?_;rintro e w5 ⟨rfl,hw⟩;subst hw)
  | (go_at_call 76;refine (lf ao ao n c n c N N d d _ HRd.out.fw HRd.out.fw HMM.out HMM.out HN.out HN.out).mono ?_;rintro e w5 ⟨a5,n5,c5,us5,rfl,or5,b5⟩;have B5:Below w.heap.size w w5:=bc b5 (db w);have K5:=Lib.hid (S0.out w5 B5);have HO5:=Lib.hid or5.II;have hl5:=or5.len)
  | (go_at_call 60;refine (BH (d:=sD d d N) (n:=N) w5 HO5.out (by rw [←HN.out];exact HL.out) (by rw [←HN.out];exact HS.out) ab ab (by have:=HLN.out;omega)).mono ?_;rintro e w6 ⟨v6,rfl,o6,b6⟩;have B6:Below w.heap.size w w6:=bc b6 B5;have K6:=Lib.hid (S0.out w6 B6)))
 all_goals
  rw [HRR.out] at o6 ⊢
  have O6:=Lib.hid (show ry 2 w6 w.heap.size w6.heap.size v6 R.1 from ⟨o6.1,o6.2.mono B5.size (Nat.le_refl _)⟩)
  have B6h:=Lib.hid B6
  clear o6
  go_wp2_with fail
  exact bodyPost_ret (v:= .tuple #[v6, .int .i64 (R.2:Nat)]) (by simp [results,Try.f40,go_sem]) rfl ⟨v6,rfl,O6.out,B6h.out⟩
noncomputable def Gi (d:List (List Int)):Int:=if iY d=true then 0 else 1
noncomputable def GW (d:List (List Int)):Bool:=if iY d=true then decide ((wi d).2=1) else false
theorem yF (ao:Option Addr) (n c:Nat) (d:List (List Int)) (w:World) (hd:cM w (.slice ao n c) d) (fd:DT d):
  Calls Try.prog 12 #[.agg #[.slice ao n c]] w fun r w'=>r= .returned (.tuple #[.bool (GW d), .int .i64 (Gi d)])∧Below w.heap.size w w':=by
 have b0:=below_alloc1 w (.cells #[.slice ao n c] 29)
 have km:dQ (w.alloc (.cells #[.slice ao n c] 29)) w.heap.size 29 #[.slice ao n c]:=bS rfl
 have hd1:=Lib.hid (hd.below b0)
 have hz1:=b0.size
 have x0:=km.cell 0
 simp at x0
 have HI:=Lib.hid (fun (w:World) (h:cM w (.slice ao n c) d)=>ji h fd)
 obtain ⟨R,hR⟩:∃R,GW d=R:=⟨_,rfl⟩
 obtain ⟨C,hC⟩:∃C,Gi d=C:=⟨_,rfl⟩
 rw [hR,hC]
 have HR:=Lib.hid hR
 have HC:=Lib.hid hC
 clear hR hC
 go_enter Try.func12,Try.ntmps12
 go_wp2_with fail
 generalize w.alloc (.cells #[.slice ao n c] 29)=w1 at *
 refine (HI.out _ hd1.out).mono ?_
 rintro r w2 ⟨rfl,b2⟩
 have KM2:=Lib.hid (km.bm b2)
 have HB2:=Lib.hid (b0.trans (b2.mono hz1))
 have hd2:=Lib.hid (hd1.out.below b2)
 clear km b0 b2 hd1 hd x0
 cases h1:iY d with
 | false=>
  have hC0:C=1:=by rw [←HC.out];unfold Gi;rw [h1];rfl
  have hR0:R=false:=by rw [←HR.out];unfold GW;rw [h1];rfl
  subst hC0
  subst hR0
  clear HR HC
  go_wp2_with fail
  exact bodyPost_ret (v:= .tuple #[.bool false, .int .i64 1]) (by simp [results,Try.f12,go_sem]) rfl ⟨rfl,HB2.out⟩
 | true=>
  have hC0:C=0:=by rw [←HC.out];unfold Gi;rw [h1];rfl
  have HR1:=Lib.hid (show decide ((wi d).2=1)=R from by rw [←HR.out];unfold GW;rw [h1];rfl)
  subst hC0
  have HM:=Lib.hid (rf.1 h1)
  clear h1 HR HC
  have hz2:=HB2.out.size
  go_wp2_with fail
  refine (sy _ n c ao d w2 KM2.out hd2.out HM.out).mono ?_
  rintro r w3 ⟨v3,rfl,o3,b3⟩
  have HB3:=Lib.hid (HB2.out.trans (b3.mono hz2))
  generalize (wi d).2=m at *
  have HBE:=Lib.hid (show ((m:Int) == 1)=R by
   rw [←HR1.out]
   by_cases h:m=1
   ·subst h;rfl
   ·rw [decide_eq_false h,beq_eq_false_iff_ne];omega)
  clear o3 b3 HR1 HM
  go_wp2_with fail
  exact bodyPost_ret (v:= .tuple #[.bool ((m:Int) == 1), .int .i64 0]) (by simp [results,Try.f12,go_sem]) rfl ⟨by rw [HBE.out],HB3.out⟩
end Go.Proofs.Ytfpcfckocmmcnaa
namespace Go.Proofs.Ytfpcfckocmmcnaa
open Go.RowKit
end Go.Proofs.Ytfpcfckocmmcnaa
namespace Go.Proofs.Ytfpcfckocmmcnaa
open Go.RowKit
end Go.Proofs.Ytfpcfckocmmcnaa
namespace Go.Proofs.Ytfpcfckocmmcnaa
open Go.RowKit
section
variable {w wr w':World} {n:Nat} {gs:List (List Int)} {af:Option Addr} {nf cf:Nat} {uf:List Value} {es:List (List Int)} {as':Option Addr} {ns cs:Nat} {us:List Value} {ss:List (List Int)}
end
end Go.Proofs.Ytfpcfckocmmcnaa
namespace Go.Proofs.Ytfpcfckocmmcnaa
end Go.Proofs.Ytfpcfckocmmcnaa
namespace Go.Proofs.Ytfpcfckocmmcnaa
section
variable {d es:List (List Int)}
end
end Go.Proofs.Ytfpcfckocmmcnaa
namespace Go.Proofs.Ytfpcfckocmmcnaa
inductive IG (d:List (List Int)) (N:Nat):List Int→Prop
 | one:IG d N (Ig N)
 | step {p:List Int} {g:Nat} :IG d N p→g < d.length→IG d N (Ht p (aT d g))
section
variable {d es:List (List Int)} {N:Nat}
end
structure Jo (d ss:List (List Int)):Prop where
 IS:dW d
 Ji:I3 ss
 mem:∀z,z∈ss↔IG d (cn d) z
 few:ss.length≤400
section
variable {d ss:List (List Int)}
theorem EM (hd:dW d):(wi d).2=1↔∀x,x < cn d→pI d 0 x:=by
 have h2:0 < cn d:=by have:=hd.f2;unfold cn;omega
 unfold wi
 rw [tJ (hJ hd) (Aq hd) h2,lW (hJ hd) h2]
 exact ⟨fun h x hx=>(p6 hd h2 hx).1 (h x hx),fun h x hx=>(p6 hd h2 hx).2 (h x hx)⟩
end
end Go.Proofs.Ytfpcfckocmmcnaa
namespace Go.Proofs.Ytfpcfckocmmcnaa
section
variable {a:List Int} {e:List (List Int)} {N:Nat} {p:Nat→Nat}
theorem AI (h:wH a):mC (fY a) (gU a):=fun g hg c hc=>by
 have h1:=qF h.leads h.C4 g c hg
 rw [iq] at hg
 obtain ⟨t1,t2⟩:=iU h hg hc
 rw [(iU h hg t1).2,t2] at h1
 exact h1
theorem vy (h:wH a) (ha:a.length < 5) (he:e.length=a.length + 1) (hL:dh e N) (hN:N≤400)
  (hF:∀g,g < e.length→∀x,x < N→dy e x g≠x) (hC:∀i k,i + 2≤k→k < e.length→∀x,x < N→fu e i k x)
  (p0:p 0=0) (hlt:∀x,x < gU a→p x < N) (hinj:∀x y,x < gU a→y < gU a→p x=p y→x=y)
  (hm:∀g x,g < a.length + 1→x < gU a→p (fk (fY a) (gU a) g x)=dy e (p x) g):dW (fY a)∧cn (fY a)=gU a∧iM e N 0=eA (fY a) 0:=by
 have hl:(fY a).length=a.length + 1:=iq
 have hm2:∀g x,g < (fY a).length→x < gU a→p (dy (fY a) x g)=dy e (p x) g:=fun g x hg hx=>by
  rw [hl] at hg
  rw [←(iU h hg hx).2];exact hm g x hg hx
 obtain ⟨hM,hf⟩:=ES (d:=fY a) (e:=e) (N:=N) (p:=p) (M:=gU a) ab ab qb h.leads (AI h) ab hN hlt hinj hm2 hF hC
  (fun q q0 qs=>uU h q0 fun g x hg hx hq=>by
   rw [(iU h hg hx).2];exact qs x hx hq g ab)
 have hE:sR (fY a) e N p:=⟨ab,hL,fun x hx=>hlt x ab,fun x y hx hy=>hinj x y ab ab,fun g x hg hx=>hm2 g x hg ab⟩
 refine ⟨hM,hf, ?_⟩
 have h2:=hM.f2
 have:=Ax hE hM (f:=0) (by unfold cn;omega)
 rwa [p0] at this
end
theorem p8 {d:List (List Int)} {i m j:Nat} (hj:j < m):aT ((d.drop i).take m) j=aT d (i + j):=by
 unfold aT
 simp [List.getElem?_take,hj]
theorem vR {T:List (List Int)} {i m:Nat} (hT:dW T) (hi:i + m≤T.length):dh ((T.drop i).take m) (cn T)∧(∀g,g < ((T.drop i).take m).length→∀x,x < cn T→dy ((T.drop i).take m) x g≠x)∧∀j k,j + 2≤k→k < ((T.drop i).take m).length→∀x,x < cn T→fu ((T.drop i).take m) j k x:=by
 have hl:((T.drop i).take m).length=m:=by simp;omega
 have hb:∀x g,g < m→dy ((T.drop i).take m) x g=dy T x (i + g):=fun x g hg=>by unfold dy;rw [p8 hg]
 have hL:=bM hT
 refine ⟨⟨fun g hg=> ?_,fun g hg x hx=> ?_⟩,fun g hg x hx=> ?_,fun j k hjk hk x hx=> ?_⟩
 ·rw [hl] at hg;rw [p8 hg];exact hL.len _ ab
 ·rw [hl] at hg;rw [p8 hg];exact hL.within _ ab x hx
 ·rw [hl] at hg;rw [hb x g hg];exact nK hT ab hx
 ·rw [hl] at hk
  have:=hT.comm (i + j) (i + k) ab ab x hx
  unfold fu at this ⊢
  rw [hb x j ab,hb x k hk,hb _ k hk,hb _ j ab]
  exact this
theorem Ac {t a z:List Int} {L:Lv} {r:List Lv} {σ τ ρ:Nat→Nat} {θ θ':List Nat→Nat} {κ κ':Nat→List Nat} (D:sh z (L :: r)) (hz:z.length=a.length + 1) (hr:∀x,jC r x=true→jC (L :: r) (0 :: x)=true)
  (B:IX t (L :: r) σ θ κ) (B':IX a r τ θ' κ') (hτ:∀g,g < a.length + 1→τ g < a.length + 1) (hρ:∀g,g < a.length + 1→ρ g < t.length + 1∧σ (ρ g)=τ g):
  θ (0 :: κ' 0)=0∧(∀x,x < gU a→θ (0 :: κ' x) < gU t)∧(∀x y,x < gU a→y < gU a→θ (0 :: κ' x)=θ (0 :: κ' y)→x=y)∧∀g x,g < a.length + 1→x < gU a→θ (0 :: κ' (fk (fY a) (gU a) g x))=fk (fY t) (gU t) (ρ g) (θ (0 :: κ' x)):=by
 refine ⟨?_,fun x hx=>B.tl _ (hr _ (B'.kl x hx)),fun x y hx hy e=> ?_,fun g x hg hx=> ?_⟩
 ·rw [B'.k0];exact B.t0
 ·have e1:=B.ki _ (hr _ (B'.kl x hx))
  rw [e,B.ki _ (hr _ (B'.kl y hy))] at e1
  injection e1 with _ e2
  rw [←B'.ti x hx,←e2,B'.ti y hy]
 ·obtain ⟨h1,h2⟩:=hρ g hg
  have hτ1:=hτ g hg
  rw [B'.km g x hg hx,←D.Bv ab (κ' x),←h2,B.tm (ρ g) _ h1 (hr _ (B'.kl x hx))]
theorem sh.oo {z:List Int} {L:Lv} {r:List Lv} (D:sh z (L :: r)) {x:List Nat} (hx:jC r x=true):jC (L :: r) (0 :: x)=true:=by
 have:=se _ D.ub L (by simp)
 rw [jC,hx]
 simpa using this
theorem EH {zs:List Int} (h:zs.length < 5):(aS zs).2.length≤24:=by
 show (jz zs (zs.length + 1) (zs.length + 1)).length≤24
 have r:=fun i d=>hH zs i d
 have:zs.length=0∨zs.length=1∨zs.length=2∨zs.length=3∨zs.length=4:=by omega
 rcases this with e | e | e | e | e<;>rw [e]<;>simp only [jz,List.length_append,List.length_nil,Nat.reduceAdd,Nat.reduceSub]
 ·have:=r 0 0;omega
 ·have:=r 0 1;have:=r 1 0;omega
 ·have:=r 0 2;have:=r 1 1;have:=r 2 0;omega
 ·have:=r 0 3;have:=r 1 2;have:=r 2 1;have:=r 3 0;omega
 ·have:=r 0 4;have:=r 1 3;have:=r 2 2;have:=r 3 1;have:=r 4 0;omega
theorem zr {zs:List Int} (hd:cK zs=true):dN (aS zs)=true:=by
 unfold cK at hd
 rw [Bool.and_eq_true,List.all_eq_true] at hd
 have h5:zs.length < 5:=of_decide_eq_true hd.2
 have nn:∀i j,j < zs.length + 1→i < j→ft zs i j≤32:=fun i j hj hij=>by
  unfold ft
  split
  ·have:=hd.1 (aD zs i) (jm ab)
   unfold eH at this
   rw [Bool.or_eq_true] at this
   rcases this with h | h
   ·have:aD zs i=0:=eq_of_beq h
    omega
   ·exact (dY.1 h).2
  ·omega
 unfold dN
 simp only [Bool.and_eq_true,List.all_eq_true,decide_eq_true_eq]
 refine ⟨⟨dY.2 ⟨?_, ?_⟩,EH h5⟩,fun w hw=> ?_⟩
 ·show (1:Int)≤((zs.length + 1:Nat):Int);omega
 ·show ((zs.length + 1:Nat):Int)≤5;omega
 ·obtain ⟨i,j,hij,hj,hl,rfl⟩:=qh.1 hw
  have h32:=nn i j hj hij
  have hlen:=jI [(i:Int),(j:Int)] (ft zs i j).toNat
  simp only [List.length_cons,List.length_nil] at hlen
  refine ⟨?_,ab⟩
  unfold cY
  rw [Bool.and_eq_true,List.all_eq_true]
  refine ⟨decide_eq_true ab,fun z hz=> ?_⟩
  have hz2:z∈ [(i:Int),(j:Int)]:=by
   unfold dM at hz
   obtain ⟨l,hl2,hz3⟩:=List.mem_flatten.1 hz
   rwa [(List.mem_replicate.1 hl2).2] at hz3
  refine dY.2 ?_
  show 0≤z∧z≤((zs.length + 1:Nat):Int) - 1
  simp at hz2
  omega
theorem qt {zs:List Int} (hd:cK zs=true):dP (aS zs) []=true:=by
 unfold dP
 rw [zr hd];rfl
theorem DA {d:di} (h:dP d []=true):lu d []=0∧kT d []=d:=by
 obtain ⟨h1,h2,_⟩:=kZ (iD h).1
 unfold lu kT
 rw [if_pos h,if_pos h,List.append_nil]
 unfold wj vL
 rw [h2,if_pos h1,if_pos h1]
 exact ⟨rfl,rfl⟩
theorem z8 {zs:List Int} (hd:cK zs=true) (hs:da (aS zs) []=true):wH zs∧gU zs≤400:=by
 obtain ⟨ng,e,hG⟩:=jE (g:=((zs.length + 1:Nat):Int)) (rels:=(aS zs).2) (qt hd)
 obtain rfl:ng=zs.length + 1:=by omega
 have:=pM (ng:=zs.length + 1) (rels:=(aS zs).2) (ws:= []) hs
 exact ⟨⟨hG.rl,hG.wl,this.1⟩,this.2⟩
theorem rF {zs:List Int} (hd:cK zs=true) (h:wH zs→gU zs≤400→dW (fY zs)):(fy zs []=0∧eB zs []=fY zs∧wH zs∧gU zs≤400∧dW (fY zs))∨fy zs []=3:=by
 obtain ⟨h1,h2⟩:=DA (qt hd)
 have hu:dI zs []=aS zs:=h2
 by_cases hs:da (aS zs) []=true
 ·obtain ⟨hr,h4⟩:=z8 hd hs
  have hM:=h hr h4
  have:=yb hd h1 (by rw [hu];exact hs) (by rw [hu];exact iJ hM)
  rw [hu] at this
  exact .inl ⟨this.1,this.2,hr,h4,hM⟩
 ·exact .inr (xW hd h1 (by rw [hu];exact hs)).1
theorem zX {zs:List Int} (h:fy zs []=0):cK zs=true∧eB zs []=fY zs∧wH zs∧gU zs≤400∧dW (fY zs):=by
 cases hd:cK zs with
 | false=>rw [(zG hd).1] at h;cases h
 | true=>
  obtain ⟨h1,h2⟩:=DA (qt hd)
  have hu:dI zs []=aS zs:=h2
  by_cases hs:da (aS zs) []=true
  ·obtain ⟨hr,h4⟩:=z8 hd hs
   cases hm:iY (bX (dI zs []) []) with
   | false=>rw [(Ay hd h1 (by rw [hu];exact hs) hm).1] at h;cases h
   | true=>
    have h5:=yb hd h1 (by rw [hu];exact hs) hm
    rw [hu] at h5 hm
    exact ⟨rfl,h5.2,hr,h4,rf.1 hm⟩
  ·rw [(xW hd h1 (by rw [hu];exact hs)).1] at h;cases h
end Go.Proofs.Ytfpcfckocmmcnaa
namespace Go.Proofs.Ytfpcfckocmmcnaa
structure IQ (d e:List (List Int)) (p:Nat→Nat):Prop where
 len:d.length=e.length
 cn:cn d=cn e
 lt:∀x,x < Go.Proofs.Ytfpcfckocmmcnaa.cn d→p x < Go.Proofs.Ytfpcfckocmmcnaa.cn d
 mov:∀g x,g < d.length→x < Go.Proofs.Ytfpcfckocmmcnaa.cn d→p (dy d x g)=dy e (p x) g
section
variable {d e:List (List Int)} {p:Nat→Nat}
end
theorem DX {d:List (List Int)} (hM:dW d) {f:Nat} (hf:f < cn d):IQ (eA d f) d (fP d f):=
 ⟨qi d f,vm hM,fun x hx=>by rw [vm hM] at hx ⊢;exact (fL hM hf hx).1,fun g x hg hx=>by rw [qi] at hg;rw [vm hM] at hx;exact (j4 hM hf hg hx).2.2⟩
end Go.Proofs.Ytfpcfckocmmcnaa
namespace Go.Proofs.Ytfpcfckocmmcnaa
theorem uy {zs:List Int} (h:wH zs):cn (fY zs)=gU zs:=h.leads.len 0 (by rw [iq];omega)
theorem C6 {d:List (List Int)} {i m x g:Nat} (hg:g < m):dy ((d.drop i).take m) x g=dy d x (i + g):=by unfold dy;rw [p8 hg]
theorem DF {d:List (List Int)} {i m:Nat} (h:i + m≤d.length):((d.drop i).take m).length=m:=by simp;omega
theorem tq {zs:List Int} {tw:List Lv} (D:sh zs tw) (hz:zs≠ []) (h5:zs.length < 5) (h:wH zs) (h4:gU zs≤400) (hM:dW (fY zs)) (h':wH zs.dropLast):
  dW (fY zs.dropLast)∧cn (fY zs.dropLast)=gU zs.dropLast∧iM (((fY zs).drop 0).take zs.length) (cn (fY zs)) 0=eA (fY zs.dropLast) 0:=by
 have hp:=List.length_pos_iff.2 hz
 have hl:zs.dropLast.length=zs.length - 1:=by simp
 have hT:(fY zs).length=zs.length + 1:=iq
 match tw,D with
 | [],D=>exact absurd D.len (by simp)
 | L :: r,D=>
  obtain ⟨θ,κ,B⟩:=oH D D.pos (yn zs) h
  obtain ⟨θ',κ',B'⟩:=oH (D.tail hz) (D.tail hz).pos (yn _) h'
  obtain ⟨q1,q2,q3,q4⟩:=Ac (ρ:=id) D ab (fun x hx=>D.oo hx) B B' (fun g hg=>hg) (fun g hg=>⟨by simp at hg ⊢;omega,rfl⟩)
  obtain ⟨p1,p2,p3⟩:=vR (i:=0) (m:=zs.length) hM ab
  have hN:=uy h
  refine vy h' ab (by rw [DF ab];omega) p1 ab p2 p3 q1 (fun x hx=>by rw [hN];exact q2 x hx) q3 fun g x hg hx=> ?_
  rw [q4 g x hg hx,(iU h (by simp;omega) (q2 x hx)).2,C6 ab,Nat.zero_add]
  rfl
theorem r7 {zs:List Int} {tv:List Lv} (hpos:∀i,i < zs.length→0 < aD zs i) (D:sh zs.reverse tv) (hz:zs≠ []) (h5:zs.length < 5) (h:wH zs) (h4:gU zs≤400) (hM:dW (fY zs)) (h':wH zs.tail):
  dW (fY zs.tail)∧cn (fY zs.tail)=gU zs.tail∧iM (((fY zs).drop 1).take zs.length) (cn (fY zs)) 0=eA (fY zs.tail) 0:=by
 have hp:=List.length_pos_iff.2 hz
 have hl:zs.tail.length=zs.length - 1:=by simp
 have hT:(fY zs).length=zs.length + 1:=iq
 have hrl:zs.reverse.length=zs.length:=by simp
 have hpos2:∀i,i < zs.tail.length→0 < aD zs.tail i:=fun i hi=>by
  have:=hpos (i + 1) ab
  rw [cA ab] at this
  rw [cA hi]
  simpa using this
 match tv,D with
 | [],D=>exact absurd D.len (by simp)
 | L :: r,D=>
  obtain ⟨θ,κ,B⟩:=oH D hpos (vz zs).symm h
  have D':=D.tail (by simpa using hz)
  rw [show zs.reverse.dropLast=zs.tail.reverse from by simp] at D'
  obtain ⟨θ',κ',B'⟩:=oH D' hpos2 (vz zs.tail).symm h'
  obtain ⟨q1,q2,q3,q4⟩:=Ac (ρ:=fun g=>1 + g) D ab (fun x hx=>D.oo hx) B B' (fun g hg=>by omega) (fun g hg=>⟨ab,ab⟩)
  obtain ⟨p1,p2,p3⟩:=vR (i:=1) (m:=zs.length) hM ab
  have hN:=uy h
  refine vy h' ab (by rw [DF ab];omega) p1 ab p2 p3 q1 (fun x hx=>by rw [hN];exact q2 x hx) q3 fun g x hg hx=> ?_
  rw [q4 g x hg hx,(iU h ab (q2 x hx)).2,C6 ab]
theorem xS {zs:List Int} {tv:List Lv} (hpos:∀i,i < zs.length→0 < aD zs i) (D:sh zs.reverse tv) (h5:zs.length < 5) (h:wH zs) (h4:gU zs≤400) (hM:dW (fY zs)) (h':wH zs.reverse):
  dW (fY zs.reverse)∧cn (fY zs.reverse)=gU zs.reverse∧eA (fY zs).reverse 0=eA (fY zs.reverse) 0:=by
 have hT:(fY zs).length=zs.length + 1:=iq
 have hrl:zs.reverse.length=zs.length:=by simp
 have hR:=zZ hM
 have hN:=uy h
 have hfr:=EE hM
 have hne:0 < cn (fY zs).reverse:=by have:=hR.f2;unfold cn;omega
 have hid:iM (fY zs).reverse (cn (fY zs)) 0=eA (fY zs).reverse 0:=
  Ax (d:=(fY zs).reverse) (e:=(fY zs).reverse) (N:=cn (fY zs)) (p:=fun x=>x) ⟨rfl,by rw [←hfr];exact bM hR,fun x hx=>by omega,fun x y _ _ e=>e,fun g x _ _=>rfl⟩ hR hne
 obtain ⟨θ,κ,B⟩:=oH D hpos (vz zs).symm h
 obtain ⟨θ',κ',B'⟩:=oH D D.pos (yn _) h'
 rw [←hid]
 refine vy (p:=fun x=>θ (κ' x)) h' ab (by rw [List.length_reverse,hT,hrl]) (by rw [←hfr];exact bM hR) ab (fun g hg x hx=>nK hR hg ab) (fun i k hik hk x hx=>hR.comm i k hik hk x (by rw [←hfr] at hx;exact hx)) ?_ (fun x hx=>by rw [hN];exact B.tl _ (B'.kl x hx)) (fun x y hx hy e=> ?_) fun g x hg hx=> ?_
 ·show θ (κ' 0)=0
  rw [B'.k0];exact B.t0
 ·have e1:=B.ki _ (B'.kl x hx)
  rw [show θ (κ' x)=θ (κ' y) from e,B.ki _ (B'.kl y hy)] at e1
  rw [←B'.ti x hx,←e1,B'.ti y hy]
 ·have hk:=B'.kl x hx
  have e1:=B.tm (zs.length - g) (κ' x) ab hk
  rw [show zs.length - (zs.length - g)=g by omega] at e1
  rw [B'.km g x hg hx]
  show θ (tf tv g (κ' x))=_
  rw [e1,(iU h ab (B.tl _ hk)).2,ik ab,hT]
  congr 1
theorem Ip {zs:List Int} (hA:FV zs) (hz:zs≠ []) (h:fy zs []=0):
  cK zs.reverse=true∧
  ((fy zs.dropLast []=0∧dW (eB zs.dropLast [])∧iM (((eB zs []).drop 0).take ((eB zs []).length - 1)) (cn (eB zs [])) 0=eA (eB zs.dropLast []) 0)∨fy zs.dropLast []=3)∧
  ((fy zs.tail []=0∧dW (eB zs.tail [])∧iM (((eB zs []).drop 1).take ((eB zs []).length - 1)) (cn (eB zs [])) 0=eA (eB zs.tail []) 0)∨fy zs.tail []=3)∧
  ((fy zs.reverse []=0∧dW (eB zs.reverse [])∧eA (eB zs []).reverse 0=eA (eB zs.reverse []) 0)∨fy zs.reverse []=3):=by
 obtain ⟨hd,hr,hrn,h4,hM⟩:=zX h
 have hd2:=hd
 unfold cK at hd2
 rw [Bool.and_eq_true,List.all_eq_true] at hd2
 have h5:zs.length < 5:=of_decide_eq_true hd2.2
 have hf:BI zs (BA zs)=true:=by
  cases hb:BI zs (BA zs) with
  | true=>rfl
  | false=>
   have:=Gt hA hd hb hrn
   have:400 < gU zs:=this
   omega
 have hmem:=Eu hA hd hf
 obtain ⟨tw,D,_⟩:=Dt hmem
 obtain ⟨tv,V⟩:=Fa hmem
 have diag:∀ys:List Int,(∀z∈ys,z∈zs)→ys.length < 5→cK ys=true:=fun ys hy hl=>by
  unfold cK
  rw [Bool.and_eq_true,List.all_eq_true]
  exact ⟨fun z hz=>hd2.1 z (hy z hz),decide_eq_true hl⟩
 have dr:=diag zs.reverse (fun z hz=>by simpa using hz) (by simpa using h5)
 have dd:=diag zs.dropLast (fun z hz=>List.dropLast_subset _ hz) (by simp;omega)
 have dt:=diag zs.tail (fun z hz=>List.mem_of_mem_tail hz) (by simp;omega)
 have hT:(fY zs).length - 1=zs.length:=by rw [iq];omega
 rw [hr,hT]
 refine ⟨dr, ?_, ?_, ?_⟩
 ·refine (rF dd fun h' _=>(tq D hz h5 hrn h4 hM h').1).imp (fun q=> ?_) id
  obtain ⟨q1,q2,q3,q4,q5⟩:=q
  rw [q2]
  exact ⟨q1,q5,(tq D hz h5 hrn h4 hM q3).2.2⟩
 ·refine (rF dt fun h' _=>(r7 D.pos V hz h5 hrn h4 hM h').1).imp (fun q=> ?_) id
  obtain ⟨q1,q2,q3,q4,q5⟩:=q
  rw [q2]
  exact ⟨q1,q5,(r7 D.pos V hz h5 hrn h4 hM q3).2.2⟩
 ·refine (rF dr fun h' _=>(xS D.pos V h5 hrn h4 hM h').1).imp (fun q=> ?_) id
  obtain ⟨q1,q2,q3,q4,q5⟩:=q
  rw [q2]
  exact ⟨q1,q5,(xS D.pos V h5 hrn h4 hM q3).2.2⟩
theorem oV {d:List (List Int)} (hd:dW d):dW (eA d 0)∧cn (eA d 0)=cn d∧0 < (sD (eA d 0) d (cn d)).length:=by
 have h0:0 < cn d:=by have:=hd.f2;unfold cn;omega
 have hI:=DX hd h0
 have hF:=DP hd h0
 have hfl:=hI.cn
 have hc:=rO (d:=eA d 0) (e:=d) (fP d 0) (fun i hi=>by rw [←hfl];exact hI.lt i hi) hF hd hI.len (fun g i hg hi=>hI.mov g i hg hi)
 exact ⟨hF,hfl,List.length_pos_of_mem ((uT hF hI.len).2 hc.1)⟩
theorem GS {zs:List Int} {ws:List (List Int)} (h:fy zs ws=0):
  cK zs=true∧lu (aS zs) ws=0∧dW (eB zs ws)∧Gi (eB zs ws)=0∧GW (eB zs ws)=true∧yv (dI zs ws) []=0∧yD (dI zs ws) []=(cn (eB zs ws):Int):=by
 have hd:cK zs=true:=by
  cases hd:cK zs with
  | false=>rw [(zG hd).1] at h;cases h
  | true=>rfl
 have hw:lu (aS zs) ws=0:=by
  by_cases hw:lu (aS zs) ws=0
  ·exact hw
  ·rw [(AA hd hw).1] at h;exact h
 have hs:da (dI zs ws) []=true:=by
  by_cases hs:da (dI zs ws) []=true
  ·exact hs
  ·rw [(xW hd hw hs).1] at h;cases h
 have hm:iY (bX (dI zs ws) [])=true:=by
  cases hm:iY (bX (dI zs ws) []) with
  | false=>rw [(Ay hd hw hs hm).1] at h;cases h
  | true=>rfl
 have hM:=rf.1 hm
 rw [(yb hd hw hs hm).2]
 have hp:dN (dI zs ws)=true:=pn hw
 have hok:dP (dI zs ws) []=true:=by unfold dP;rw [hp];rfl
 obtain ⟨ng,e,hG⟩:=jE (g:=(dI zs ws).1) (rels:=(dI zs ws).2) hok
 have ed:dI zs ws=((ng:Int),(dI zs ws).2):=by rw [←e]
 generalize (dI zs ws).2=R at *
 rw [ed] at hs hM hok hm ⊢
 obtain ⟨s1,s2⟩:=pM hs
 have hr:At ng R []:=⟨hG.rl,hG.wl,s1⟩
 have hx:(pS ((ng:Int),R) []).2.2=false:=by rw [iF];exact s1
 have et:bX ((ng:Int),R) []=oG ng R []:=gu ng R []
 have en:lr ((ng:Int),R) []=oF ng R []:=xE ng R []
 have hf:cn (bX ((ng:Int),R) [])=oF ng R []:=by
  rw [et];exact hr.leads.len 0 (by rw [(nV:(oG ng R []).length=ng)];exact hG.pos)
 refine ⟨hd,hw,hM,by unfold Gi;rw [if_pos hm], ?_,by unfold yv;rw [if_pos hok,hx];rfl,by unfold yD;rw [if_pos hok,hx,hf,en];rfl⟩
 unfold GW
 rw [if_pos hm]
 refine decide_eq_true ((EM hM).2 fun x hx=> ?_)
 rw [hf] at hx
 obtain ⟨φ,f0,f1,f2⟩:=hr.map hr hx (fun w hw k hk=>vT hr.r hr.w hr.nf hw hk) (fun w hw=>by simp at hw)
 have hc:=rO (d:=bX ((ng:Int),R) []) (e:=bX ((ng:Int),R) []) φ (fun i hi=>by rw [hf] at hi ⊢;exact f1 i hi) hM hM rfl (fun g i hg hi=>by
  rw [hf] at hi
  have hl:(bX ((ng:Int),R) []).length=ng:=fD ng R []
  have h1:=f2 [(g:Int)] i (fun z hz=>by simp at hz;omega) hi
  rw [←et] at h1
  unfold dy
  have h2:dZ (bX ((ng:Int),R) []) (i:Nat) [(g:Int)]=aD (aT (bX ((ng:Int),R) []) g) i:=by simp [dZ]
  have h3:dZ (bX ((ng:Int),R) []) (φ i:Nat) [(g:Int)]=aD (aT (bX ((ng:Int),R) []) g) (φ i):=by simp [dZ]
  rw [h2,h3] at h1
  omega)
 have h2:=hM.f2
 refine ⟨_,hc.1, ?_⟩
 rw [hc.2 0 (by unfold cn;omega)]
 exact f0
end Go.Proofs.Ytfpcfckocmmcnaa
namespace Go.Proofs.Ytfpcfckocmmcnaa
open Go.RowKit
theorem wF {v v':Value} {zs:List Int} {ws:List (List Int)} (w:World) (h:Co w v zs) (h':mN w v' ws):
  Calls Try.prog 7 #[v,v'] w fun e w'=>∃v,e= .returned (.tuple #[v, .int .i64 (fy zs ws)])∧sQ 2 24 w' w.heap.size w'.heap.size v (eB zs ws)∧Below w.heap.size w w':=by
 obtain ⟨ao,n,c,rfl,hi⟩:=h
 obtain ⟨bo,m,c2,rfl,hi'⟩:=h'
 exact xu ao bo n c m c2 zs ws w hi hi'
theorem jP {v v':Value} {zs:List Int} {ws:List (List Int)} (w:World) (h:Co w v zs) (h':mN w v' ws):
  Calls Try.prog 6 #[v,v'] w fun e w'=>∃v,e= .returned (.tuple #[v, .int .i64 (fy zs ws)])∧sQ 2 24 w' w.heap.size w'.heap.size v (eB zs ws)∧Below w.heap.size w w':=by
 obtain ⟨ao,n,c,rfl,hi⟩:=h
 obtain ⟨bo,m,c2,rfl,hi'⟩:=h'
 exact wI ao bo n c m c2 zs ws w hi hi'
end Go.Proofs.Ytfpcfckocmmcnaa
namespace Go.Proofs.Ytfpcfckocmmcnaa
open Go.RowKit
def vP (zs:List Int):List Int:=if cK zs=true then lG zs else []
def xZ (zs:List Int):Int:=if cK zs=true then 0 else 1
theorem pT (ao:Option Addr) (n c:Nat) (zs:List Int) (w:World) (h:cW w ao n zs) (hn:n≤1048576):
  Calls Try.prog 18 #[.slice ao n c] w fun e w'=>∃ao' n' c',e= .returned (.tuple #[.slice ao' n' c', .int .i64 (xZ zs)])∧Own w' w.heap.size 2 ao' n' c' ((vP zs).map (Value.int .i64))∧Below w.heap.size w w':=by
 cases hd:cK zs with
 | true=>
  have hR:vP zs=lG zs:=by simp [vP,hd]
  have hC:xZ zs=0:=by simp [xZ,hd]
  have HD:=Lib.hid hd
  rw [hR,hC]
  clear hd hR hC
  go_enter Try.func18,Try.ntmps18
  go_wp2_with fail
  refine (cQ _ _ _ zs _ h).mono ?_
  rintro e w1 ⟨rfl,b1⟩
  rw [HD.out]
  go_wp2_with fail
  refine (tG _ _ _ zs _ (h.below b1) hn).mono ?_
  rintro e w2 ⟨ao',c',rfl,ho,b2⟩
  go_wp2_with fail
  have hlt:=ho.lt
  refine (wc _ _ _ zs _ w1.heap.size ho).mono ?_
  rintro e w3 ⟨rfl,ho3,hg⟩
  go_wp2
  go_ret2
  exact ⟨_,_,_,rfl,ho3.mono b1.size,(b1.trans (b2.mono b1.size)).grown hg (b1.trans (b2.mono b1.size)).size (fun g hg'=>Nat.le_trans b1.size (hlt g hg').1)⟩
 | false=>
  have hR:vP zs= []:=by simp [vP,hd]
  have hC:xZ zs=1:=by simp [xZ,hd]
  have HD:=Lib.hid hd
  rw [hR,hC]
  clear hd hR hC
  go_enter Try.func18,Try.ntmps18
  go_wp2_with fail
  refine (cQ _ _ _ zs _ h).mono ?_
  rintro e w1 ⟨rfl,b1⟩
  rw [HD.out]
  go_wp2
  go_ret2
  exact ⟨_,_,_,rfl,Own.iX _ _ _,b1⟩
theorem pQ {v:Value} {zs:List Int} (w:World) (h:Co w v zs) (hn:zs.length≤1048576):
  Calls Try.prog 18 #[v] w fun e w'=>∃v',e= .returned (.tuple #[v', .int .i64 (xZ zs)])∧ry 2 w' w.heap.size w'.heap.size v' (vP zs)∧Below w.heap.size w w':=by
 obtain ⟨ao,n,c,rfl,hi⟩:=h
 refine (pT ao n c zs w hi (by rw [←hi.1];exact hn)).mono ?_
 rintro e w' ⟨a',n',c',rfl,ho,hb⟩
 exact ⟨_,rfl,ry.of ho,hb⟩
end Go.Proofs.Ytfpcfckocmmcnaa
namespace Go.Proofs.Ytfpcfckocmmcnaa
open Go.RowKit
theorem AJ (ao bo:Option Addr) (n c m c' N:Nat) (d e:List (List Int)) (w:World) (hd:cM w (.slice ao n c) d) (he:cM w (.slice bo m c') e) (hM:dW d) (hE:dW e) (hN:cn d=N) (hK:cn e=N) (hp:0 < (sD d e N).length):
  Calls Try.prog 80 #[.agg #[.slice ao n c], .agg #[.slice bo m c']] w fun r w'=>∃g k q,r= .returned (.slice (some g) k q)∧Below w.heap.size w w':=by
 have hN2:2≤N:=by rw [←hN];exact hM.f2
 have hN4:N≤400:=by rw [←hN];exact hM.f4
 have b0:=below_alloc2 w (.cells #[.slice ao n c] 29) (.cells #[.slice bo m c'] 29)
 have km:dQ ((w.alloc (.cells #[.slice ao n c] 29)).alloc (.cells #[.slice bo m c'] 29)) w.heap.size 29 #[.slice ao n c]:=(bS rfl).alloc _
 have kk:dQ ((w.alloc (.cells #[.slice ao n c] 29)).alloc (.cells #[.slice bo m c'] 29)) (w.heap.size + 1) 29 #[.slice bo m c']:=bS (by simp)
 have hd1:=Lib.hid (hd.below b0)
 have he1:=Lib.hid (he.below b0)
 have hz1:=b0.size
 have x0:=km.cell 0
 have y0:=kk.cell 0
 simp at x0 y0
 have HM:=Lib.hid hM
 have HE:=Lib.hid hE
 have HN:=Lib.hid hN
 have HK:=Lib.hid hK
 have hd0:=hM.n1
 have he0:=hE.n1
 have hdl:=hd.fw.1
 have hel:=he.fw.1
 clear hd he hM hE hN hK
 have hpc:(sD d e N).length≠0:=by omega
 have HC:=Lib.hid (Am d e N)
 clear x0 y0
 go_enter Try.func80,Try.ntmps80
 go_upto_region 1 with fail
 generalize (w.alloc (.cells #[.slice ao n c] 29)).alloc (.cells #[.slice bo m c'] 29)=w1 at *
 have KM:=Lib.hid km
 have KK:=Lib.hid kk
 have x1:=km.cell 0
 have y1:=kk.cell 0
 simp at x1 y1
 have HB0:=Lib.hid b0
 clear km kk b0
 go_wp2_with fail
 refine (ib _ ao n c N d w1 KM.out hd1.out.rd ab HN.out ab).mono ?_
 rintro r w2 ⟨rfl,hw⟩
 subst hw
 go_wp2_with fail
 refine (ib _ bo m c' N e w1 KK.out he1.out.rd ab HK.out ab).mono ?_
 rintro r w2 ⟨rfl,hw⟩
 subst hw
 go_wp2_with fail
 refine (lf ao bo n c m c' N N d e w1 hd1.out.fw he1.out.fw HM.out HE.out HN.out HK.out).mono ?_
 rintro r w5 ⟨a5,n5,c5,us5,rfl,or5,b5⟩
 have hl5:=or5.len
 have hp5:0 < n5:=by omega
 obtain ⟨g5,rfl,l5,t5,nc5,cc5,fz5⟩:=or5.own.form hp5
 obtain ⟨u,p,hu,hp1,how,_⟩:=or5.get hp5
 have hmem:p∈sD d e N:=List.mem_of_getElem? hp1
 obtain ⟨f,_,hf⟩:=zR.1 hmem
 have hlen:=(tB hf).2.1.len
 rw [HN.out] at hlen
 obtain ⟨a6,n6,c6,rfl,ho6⟩:=how
 have hn6:=ho6.len
 rw [List.length_map] at hn6
 obtain ⟨g6,rfl,l6,t6,nc6,cc6,fz6⟩:=ho6.form ab
 have x5:=or5.cell hu
 have B5:=Lib.hid (HB0.out.trans (b5.mono hz1))
 have hbn:n5≤400:=by have:=HC.out;omega
 clear or5 b5 hp1 hmem hf hlen ho6 hn6 hl5 hpc
 go_wp2_with fail
 exact bodyPost_ret (v:= .slice (some ⟨g6,0,none⟩) n6 c6) (by simp [results,Try.f80,go_sem]) rfl ⟨_,_,_,rfl,B5.out⟩
end Go.Proofs.Ytfpcfckocmmcnaa
namespace Go.Proofs.Ytfpcfckocmmcnaa
open Go.RowKit
theorem yT (ao bo:Option Addr) (n c m c' N:Nat) (d e:List (List Int)) (w:World) (hd:cM w (.slice ao n c) d) (he:cM w (.slice bo m c') e) (hM:dW d) (hE:dW e) (hN:cn d=N) (hK:cn e=N) (hp:0 < (sD d e N).length):
  Calls Try.prog 47 #[.agg #[.slice ao n c], .agg #[.slice bo m c']] w fun r w'=>r= .returned (.tuple #[.bool true, .int .i64 0])∧Below w.heap.size w w':=by
 have HI:=Lib.hid (fun (w:World) (h:cM w (.slice ao n c) d)=>ji h (kW hM))
 have HJ:=Lib.hid (fun (w:World) (h:cM w (.slice bo m c') e)=>ji h (kW hE))
 have HA:=Lib.hid (iJ hM)
 have HB:=Lib.hid (iJ hE)
 have HK:=Lib.hid (fun (w:World) (h:cM w (.slice ao n c) d) (k:cM w (.slice bo m c') e)=>AJ ao bo n c m c' N d e w h k hM hE hN hK hp)
 have b0:=below_alloc2 w (.cells #[.slice ao n c] 29) (.cells #[.slice bo m c'] 29)
 have km:dQ ((w.alloc (.cells #[.slice ao n c] 29)).alloc (.cells #[.slice bo m c'] 29)) w.heap.size 29 #[.slice ao n c]:=(bS rfl).alloc _
 have kk:dQ ((w.alloc (.cells #[.slice ao n c] 29)).alloc (.cells #[.slice bo m c'] 29)) (w.heap.size + 1) 29 #[.slice bo m c']:=bS (by simp)
 have hd1:=Lib.hid (hd.below b0)
 have he1:=Lib.hid (he.below b0)
 have hz1:=b0.size
 have x0:=km.cell 0
 have y0:=kk.cell 0
 simp at x0 y0
 clear hd he hM hE hN hK hp
 go_enter Try.func47,Try.ntmps47
 go_wp2_with fail
 generalize (w.alloc (.cells #[.slice ao n c] 29)).alloc (.cells #[.slice bo m c'] 29)=w1 at *
 refine (HI.out _ hd1.out).mono ?_
 rintro r w2 ⟨rfl,b2⟩
 rw [HA.out]
 have hd2:=Lib.hid (hd1.out.below b2)
 have he2:=Lib.hid (he1.out.below b2)
 have KM2:=Lib.hid (km.bm b2)
 have KK2:=Lib.hid (kk.bm b2)
 have B2:=Lib.hid (b0.trans (b2.mono hz1))
 clear km kk b0 b2 hd1 he1 x0 y0
 have x2:=KM2.out.cell 0
 have y2:=KK2.out.cell 0
 simp at x2 y2
 have hz2:=B2.out.size
 go_wp2_with fail
 refine (HJ.out _ he2.out).mono ?_
 rintro r w3 ⟨rfl,b3⟩
 rw [HB.out]
 have hd3:=Lib.hid (hd2.out.below b3)
 have he3:=Lib.hid (he2.out.below b3)
 have KM3:=Lib.hid (KM2.out.bm b3)
 have KK3:=Lib.hid (KK2.out.bm b3)
 have B3:=Lib.hid (B2.out.trans (b3.mono hz2))
 clear KM2 KK2 B2 b3 hd2 he2 x2 y2
 have x3:=KM3.out.cell 0
 have y3:=KK3.out.cell 0
 simp at x3 y3
 have hz3:=B3.out.size
 go_wp2_with fail
 refine (HK.out _ hd3.out he3.out).mono ?_
 rintro r w4 ⟨g4,k4,q4,rfl,b4⟩
 have B4:=Lib.hid (B3.out.trans (b4.mono hz3))
 clear KM3 KK3 B3 b4 hd3 he3 x3 y3
 go_wp2_with fail
 exact bodyPost_ret (v:= .tuple #[.bool true, .int .i64 0]) (by simp [results,Try.f47,go_sem]) rfl ⟨rfl,B4.out⟩
end Go.Proofs.Ytfpcfckocmmcnaa
namespace Go.Proofs.Ytfpcfckocmmcnaa
open Go.RowKit
theorem Bh (ao:Option Addr) (n c:Nat) (d:List (List Int)) (w:World) (h:cM w (.slice ao n c) d) (hM:dW d):
  Calls Try.prog 13 #[.agg #[.slice ao n c]] w fun e w'=>e= .returned (.bool true)∧Below w.heap.size w w':=by
 have HI:=Lib.hid (fun (w:World) (h:cM w (.slice ao n c) d)=>ji h (kW hM))
 rw [iJ hM] at HI
 have b0:=below_alloc1 w (.cells #[.slice ao n c] 29)
 have km:dQ (w.alloc (.cells #[.slice ao n c] 29)) w.heap.size 29 #[.slice ao n c]:=bS rfl
 have HD:=Lib.hid (h.below b0)
 have HB:=Lib.hid b0
 have hz0:=b0.size
 have x0:=km.cell 0
 simp at x0
 clear h hM b0 km
 go_enter Try.func13,Try.ntmps13
 go_wp2_with fail
 generalize w.alloc (.cells #[.slice ao n c] 29)=w0 at *
 refine (HI.out _ HD.out).mono ?_
 rintro e w1 ⟨rfl,b1⟩
 have B1:=Lib.hid (HB.out.trans (b1.mono hz0))
 clear b1 x0
 go_wp2_with fail
 exact bodyPost_ret (v:= .bool true) (by simp [results,Try.f13,go_sem]) rfl ⟨rfl,B1.out⟩
theorem y8 (ao bo:Option Addr) (n c m c':Nat) (d:List (List Int)) (w:World) (hd:mN w (.slice ao n c) d) (he:mN w (.slice bo m c') d):
  Calls Try.prog 8 #[.agg #[.slice ao n c], .agg #[.slice bo m c']] w fun r w'=>r= .returned (.bool true)∧Below w.heap.size w w':=by
 have b0:=below_alloc2 w (.cells #[.slice ao n c] 29) (.cells #[.slice bo m c'] 29)
 have km:dQ ((w.alloc (.cells #[.slice ao n c] 29)).alloc (.cells #[.slice bo m c'] 29)) w.heap.size 29 #[.slice ao n c]:=(bS rfl).alloc _
 have kk:dQ ((w.alloc (.cells #[.slice ao n c] 29)).alloc (.cells #[.slice bo m c'] 29)) (w.heap.size + 1) 29 #[.slice bo m c']:=bS (by simp)
 have hd1:=Lib.hid (hd.below b0)
 have he1:=Lib.hid (he.below b0)
 have hz1:=b0.size
 have x0:=km.cell 0
 have y0:=kk.cell 0
 have B0:=Lib.hid b0
 simp at x0 y0
 clear hd he b0 km kk
 go_enter Try.func8,Try.ntmps8
 go_wp2_with fail
 generalize (w.alloc (.cells #[.slice ao n c] 29)).alloc (.cells #[.slice bo m c'] 29)=w1 at *
 refine (Cm _ hd1.out he1.out).mono ?_
 rintro r w2 ⟨rfl,b2⟩
 have B2:=Lib.hid (B0.out.trans (b2.mono hz1))
 clear b2 x0 y0
 go_wp2_with fail
 exact bodyPost_ret (v:= .bool true) (by simp [results,Try.f8,go_sem]) rfl ⟨rfl,B2.out⟩
theorem zB (ao:Option Addr) (n c N:Nat) (d:List (List Int)) (w:World) (hd:mN w (.slice ao n c) d) (h0:0 < n) (hN:(aT d 0).length=N):
  Calls Try.prog 14 #[.agg #[.slice ao n c]] w fun r w'=>r= .returned (.int .i64 N)∧Below w.heap.size w w':=by
 have b0:=below_alloc1 w (.cells #[.slice ao n c] 29)
 have km:dQ (w.alloc (.cells #[.slice ao n c] 29)) w.heap.size 29 #[.slice ao n c]:=bS rfl
 have hd1:=Lib.hid (hd.below b0)
 have B0:=Lib.hid b0
 clear hd b0
 go_enter Try.func14,Try.ntmps14
 go_upto_region 1 with fail
 generalize w.alloc (.cells #[.slice ao n c] 29)=w1 at *
 have x0:=km.cell 0
 simp at x0
 obtain ⟨a',n',c',e',hi⟩:=hd1.out
 injection e' with e1 e2 e3
 subst e1 e2 e3
 have hbd:=hi.2.1
 obtain ⟨b1,o1,a1,n1,c1,rfl,hc1,hin1⟩:=hi.at_ h0
 rw [Nat.add_zero] at hc1
 have hn1:n1=N:=by rw [←hin1.1];exact hN
 have hb1:=hin1.2.1
 subst hn1
 clear hN km hi hd1
 go_wp2_with fail
 exact bodyPost_ret (v:= .int .i64 n1) (by simp [results,Try.f14,go_sem]) rfl ⟨rfl,B0.out⟩
theorem m7 (ao bo:Option Addr) (n c m c' N:Nat) (d e:List (List Int)) (w:World) (hd:cM w (.slice ao n c) d) (he:cM w (.slice bo m c') e) (hM:dW d) (hE:dW e) (hN:cn d=N) (hK:cn e=N) (hp:0 < (sD d e N).length):
  Calls Try.prog 19 #[.agg #[.slice ao n c], .agg #[.slice bo m c']] w fun r w'=>r= .returned (.bool true)∧Below w.heap.size w w':=by
 have HA:=Lib.hid (fun (w:World) (h:cM w (.slice ao n c) d) (k:cM w (.slice bo m c') e)=>yT ao bo n c m c' N d e w h k hM hE hN hK hp)
 have b0:=below_alloc2 w (.cells #[.slice ao n c] 29) (.cells #[.slice bo m c'] 29)
 have hd1:=Lib.hid (hd.below b0)
 have he1:=Lib.hid (he.below b0)
 have hz1:=b0.size
 have B0:=Lib.hid b0
 clear hd he b0 hM hE hN hK hp
 go_enter Try.func19,Try.ntmps19
 go_wp2_with fail
 generalize (w.alloc (.cells #[.slice ao n c] 29)).alloc (.cells #[.slice bo m c'] 29)=w1 at *
 refine (HA.out _ hd1.out he1.out).mono ?_
 rintro r w2 ⟨rfl,b2⟩
 have B2:=Lib.hid (B0.out.trans (b2.mono hz1))
 clear b2
 go_wp2_with fail
 exact bodyPost_ret (v:= .bool true) (by simp [results,Try.f19,go_sem]) rfl ⟨rfl,B2.out⟩
end Go.Proofs.Ytfpcfckocmmcnaa
namespace Go.Proofs.Ytfpcfckocmmcnaa
open Go.RowKit
theorem AO (f N:Nat) (d:List (List Int)) (v:Value) (w:World) (h:cM w v d) (hT:dh d N) (h1:1≤d.length) (h5:d.length≤5) (hN:N≤400) (hf:f < N):
  Calls Try.prog 77 #[v, .int .i64 f] w fun e w'=>∃v',e= .returned v'∧ry 2 w' w.heap.size w'.heap.size v' (lx d N f).2∧Below w.heap.size w w':=by
 obtain ⟨hd,r,rfl,hv⟩:=Ai 1003 24 2 h
 have hO:=(lA hT hf).le
 exact vJ rfl ab ((Aj d N f hT ab ab ab hf).call (l:= [(1003,(bh d,hd,r))]) (us:= [_,_]) (fun p hp=>by simp at hp;subst hp;exact hv) rfl (Az (nc (q:=(bh d,hd,r)) rfl) rfl))
theorem mz (ao:Option Addr) (n c f N:Nat) (d:List (List Int)) (w:World) (hd:cM w (.slice ao n c) d) (hM:dh d N) (hd1:1≤d.length) (hd5:d.length≤5) (hN2:2≤N) (hN4:N≤400) (hf:f < N):
  Calls Try.prog 43 #[.slice ao n c, .int .i64 f] w fun e w'=>∃r,e= .returned r∧sQ 2 24 w' w.heap.size w'.heap.size r (iM d N f)∧Below w.heap.size w w':=by
 have HD:=Lib.hid hd
 have HM:=Lib.hid hM
 have HF:=Lib.hid hf
 obtain ⟨K,hK⟩:∃K,(lx d N f).2.length=K:=⟨_,rfl⟩
 have HOF:=Lib.hid hK
 have hKN:K≤N:=by rw [←hK];exact (lA hM hf).le
 have HOI:=Lib.hid (show ∀i:Nat,i < K→∃x:Nat,aD (lx d N f).2 i=(x:Int)∧x < N from fun i hi=>by
  obtain ⟨x,h1,h2, -⟩:=(lA hM hf).q i (by rw [hK];exact hi)
  exact ⟨x,h1,h2⟩)
 have hdl:=hd.fw.1
 clear hd hM hf hK
 have b1:=below_alloc1 w (.cells #[.slice none 0 0] 29)
 have kr1:dQ (w.alloc (.cells #[.slice none 0 0] 29)) w.heap.size 29 #[.slice none 0 0]:=bS rfl
 have hz1:w.heap.size < (w.alloc (.cells #[.slice none 0 0] 29)).heap.size:=by simp
 go_enter Try.func43,Try.ntmps43
 go_upto_region 1 with fail
 generalize w.alloc (.cells #[.slice none 0 0] 29)=w1 at *
 have HD1:=Lib.hid (HD.out.below b1)
 have B1:=Lib.hid b1
 have KR1:=Lib.hid kr1
 clear b1 kr1 HD
 go_wp2_with fail
 refine (AO f N d _ w1 HD1.out HM.out hd1 hd5 hN4 HF.out).mono ?_
 rintro e w2 ⟨v2,rfl,o2,b2⟩
 obtain ⟨⟨oa,on,oc,rfl,ho⟩, -⟩:=o2
 have hon:on=K:=by have:=ho.len;rw [List.length_map,HOF.out] at this;exact this.symm
 subst hon
 have HO2:=Lib.hid ho.ints
 have hz12:w.heap.size < w2.heap.size:=Nat.lt_of_lt_of_le hz1 b2.size
 have B2:=Lib.hid (B1.out.trans (b2.mono (Nat.le_of_lt hz1)))
 have KR2:=Lib.hid (KR1.out.bm b2)
 have HD2:=Lib.hid (HD1.out.below b2)
 clear ho b2 B1 KR1 HD1
 obtain ⟨b0,off0,a0,n0,c0,rfl,hc0,hi0⟩:=HD2.out.fw.at_ (k:=0) ab
 have hn0:n0=N:=by rw [←hi0.1];exact HM.out.len 0 ab
 subst hn0
 rw [Nat.add_zero] at hc0
 clear hi0
 go_wp2_with (at_make;refine kh yi _ rfl _ _ rfl w2.heap.size _ _ _ _ n0 rfl rfl rfl rfl ab (Nat.le_refl _) ?_;intro w3 o3 g3 s3)
 have b3:Below w2.heap.size w2 w3:=(Below.refl _ _).grown g3 (Nat.le_refl _) (by simp)
 have B3:=Lib.hid b3
 have hg3:w2.heap.size < w3.heap.size:=(o3.lt w2.heap.size rfl).2
 obtain ⟨gn,hgn⟩:∃gn,w2.heap.size=gn:=⟨_,rfl⟩
 have HGN:=Lib.hid hgn
 have O3:=Lib.hid (show Own w3 w2.heap.size 2 (some ⟨gn,0,none⟩) n0 n0 ((ln n0 (fun i=>mu d n0 f i) (fun i=>(i:Int)) 0).map (Value.int .i64)) by rw [←hgn,oL];simpa using o3)
 clear o3 g3 s3 b3 hc0
 rw [hgn]
 have hz2:=B2.out.size
 have hgn2:gn < w3.heap.size:=by rw [←hgn];exact hg3
 clear hgn
 go_wp2_with fail
 go_loopw [25] (fun kv wr=>∃k:Nat,kv= .int .i64 k∧k≤on∧Own wr w2.heap.size 2 (some ⟨gn,0,none⟩) n0 n0 ((ln n0 (fun i=>mu d n0 f i) (fun i=>(i:Int)) k).map (Value.int .i64))∧Below w2.heap.size w2 wr) (fun kv _=>on - (intOf kv).toNat)
 case atStart=>exact ⟨0,rfl,Nat.zero_le _,O3.out,B3.out⟩
 case round=>
  clear O3 B3 hg3
  obtain ⟨k,rfl,hk,ho,hb⟩:=hrel
  have hl3:=nX n0 (fun i=>mu d n0 f i) (fun i=>(i:Int)) k
  by_cases hlt:k < on
  ·obtain ⟨x,hx1,hx2⟩:=HOI.out k hlt
   obtain ⟨b1,off1,rfl,hc1⟩:=(HO2.out.below hb).at_ hlt
   rw [hx1] at hc1
   have hxo:mu d n0 f k=x:=by unfold mu;rw [hx1,Int.toNat_natCast]
   obtain ⟨g',eg, -,hgl, -,hcell,hfr⟩:=ho.form ab
   injection eg with eg
   injection eg with eg
   subst eg
   have hcx:wr.cell? ⟨gn,x,none⟩=some (.int .i64 (aD (ln n0 (fun i=>mu d n0 f i) (fun i=>(i:Int)) k) x)):=by rw [hcell x hx2,List.getElem?_map,List.getElem?_eq_getElem ab,cA ab];rfl
   have hfx:=hfr x
   obtain ⟨st1,st2⟩:=ho.stored x (.int .i64 (k:Int))
   have ST1:=Lib.hid (show Own (wr.setCell ⟨gn,x,none⟩ (.int .i64 (k:Int))) w2.heap.size 2 (some ⟨gn,0,none⟩) n0 n0 ((ln n0 (fun i=>mu d n0 f i) (fun i=>(i:Int)) (k + 1)).map (Value.int .i64)) by rw [mn,hxo,List.map_set];exact st1)
   have BW:=Lib.hid (hb.grown st2 hb.size (fun g e=>by injection e with e;rw [←e,HGN.out];exact Nat.le_refl _))
   have hx0:(x:Int) < (n0:Int):=by omega
   clear st1 st2 ho hb hcell hfr hxo hl3 hx1
   go_wp2
   go_roundw
   case rel=>exact ⟨k + 1,by go_num,ab,ST1.out,BW.out⟩
   case measure=>simp [intOf];omega
  ·obtain rfl:k=on:=by omega
   obtain ⟨wB,rfl⟩:∃x,x=wr:=⟨_,rfl⟩
   have HO:=Lib.hid ho
   have HB:=Lib.hid hb
   have hzB:=hb.size
   have b7:=(Below.refl wB.heap.size wB).alloc (Nat.le_refl _) (.cells #[.slice none 0 0] 29)
   have ST:=Lib.hid (vI.start (w:=wB) b7 (dQ.new wB 29 #[.slice none 0 0]) (Nat.le_refl _))
   have hz7:wB.heap.size < (wB.alloc (.cells #[.slice none 0 0] 29)).heap.size:=by simp
   clear b7 hb ho
   go_upto_region 9 with fail
   generalize wB.alloc (.cells #[.slice none 0 0] 29)=w7 at *
   obtain ⟨bx,hbx⟩:∃bx,wB.heap.size=bx:=⟨_,rfl⟩
   have HBX:=Lib.hid hbx
   rw [hbx] at ST hz7 ⊢
   clear hbx
   go_wp2_with fail
   go_loopw [37] (fun kv wr=>∃(q:Nat) (am:Option Addr) (c:Nat) (us:List Value),kv= .int .i64 q∧q≤n∧vI wB wr bx (bx + 1) am q c us ((iM d n0 f).take q)) (fun kv _=>n - (intOf kv).toNat)
   case atStart=>exact ⟨0,none,0, [],rfl,Nat.zero_le _,ST.out⟩
   case round=>
    clear ST hz7
    obtain ⟨q,am,cm,um,rfl,hq,st⟩:=hrel
    obtain ⟨wA,rfl⟩:∃x,x=wr:=⟨_,rfl⟩
    by_cases hlt:q < n
    ·have ST:=Lib.hid st
     have hbw:=Lib.hid st.bel
     have hzr:=hbw.out.size
     have HBA:=Lib.hid (HB.out.trans (hbw.out.mono hzB))
     obtain ⟨b2,off2,a2,n2,c2,e2,hc2,hi2⟩:=(HD2.out.fw.below HBA.out).at_ hlt
     injection e2 with e2
     injection e2 with e21 e22
     subst e21 e22
     have hn2:n2=n0:=by rw [←hi2.1];exact HM.out.len q ab
     subst hn2
     have HI2:=Lib.hid hi2
     have hE:Own wA wA.heap.size 2 none 0 0 []:=Own.iX _ _ _
     clear st hi2
     go_wp2_with fail
     go_loopw [12,43] (fun sv iv w8=>∃(i:Nat) (a:Option Addr) (cc:Nat),i≤k∧sv= .slice a i cc∧iv= .int .i64 i∧Own w8 wA.heap.size 2 a i cc ((kO d n2 f q i).map (Value.int .i64))∧Below wA.heap.size wA w8) (fun _ iv _=>k - (intOf iv).toNat)
     case atStart=>exact ⟨0,_,_,Nat.zero_le _,rfl,rfl,by simpa [kO] using hE,Below.refl _ _⟩
     case round=>
      clear hE hc2
      obtain ⟨i,a,cc,hi,rfl,rfl,ho,hb8⟩:=hrel
      obtain ⟨w8,rfl⟩:∃x,x=wr:=⟨_,rfl⟩
      have HBW:=Lib.hid (hbw.out.trans (hb8.mono hzr))
      have HB2W:=Lib.hid (HB.out.trans (HBW.out.mono hzB))
      have HO8:=Lib.hid ho
      have hz8:=hb8.size
      clear ho
      by_cases hlti:i < k
      ·obtain ⟨x,hx1,hx2⟩:=HOI.out i hlti
       have hxo:mu d n2 f i=x:=by unfold mu;rw [hx1,Int.toNat_natCast]
       obtain ⟨b1,off1,rfl,hc1⟩:=(HO2.out.below HB2W.out).at_ hlti
       rw [hx1] at hc1
       have hy:=dj HM.out hx2 (g:=q) ab
       obtain ⟨b4,off4,rfl,hc4⟩:=(HI2.out.below hb8).at_ hx2
       obtain ⟨y,hye⟩:∃y,dy d x q=y:=⟨_,rfl⟩
       rw [hy.2,hye] at hc4
       have hyN:y < n2:=by rw [←hye];exact hy.1
       obtain ⟨b5,off5,e5,hc5⟩:=((HO.out.below HBW.out).ints).at_ hyN
       injection e5 with e5
       injection e5 with e51 e52
       subst e51 e52
       rw [Nat.zero_add] at hc5
       have hrw:=wO d n2 f q i
       rw [hxo,hye] at hrw
       have hnum:aD (AG d n2 f) y=aD (ln n2 (fun i=>mu d n2 f i) (fun i=>(i:Int)) k) y:=by unfold AG;rw [HOF.out]
       rw [hnum] at hrw
       have HRW:=Lib.hid hrw
       have hx0:(x:Int) < (n2:Int):=by omega
       have hy0:(y:Int) < (n2:Int):=by omega
       clear hrw hnum hy hye hxo hx1
       go_wp2_with (at_builtin;refine eL yi _ rfl _ _ rfl wA.heap.size a i cc _ rfl HO8.out _ rfl rfl ab hz8 ?_;intro ao2 c2' w4 ho2 hg2 hblk)
       have HO2':=Lib.hid ho2
       have hb12:=hb8.grown hg2 hz8 (fun g hg=>(HO8.out.lt g hg).1)
       clear ho2 hblk hg2
       go_roundw
       case rel=>exact ⟨i + 1,ao2,c2',ab,rfl,by go_num,by rw [HRW.out,List.map_append];exact HO2'.out,hb12⟩
       case measure=>simp [intOf];omega
      ·obtain rfl:i=k:=by omega
       have hzs:(iM d n2 f).take (q + 1)=(iM d n2 f).take q ++ [kO d n2 f q i]:=by rw [BY ab,HOF.out]
       have HZS:=Lib.hid hzs
       have STB:=Lib.hid (ST.out.below hb8)
       have xb:=STB.out.cell
       have hlo8:=STB.out.at_.2.2
       clear hzs
       go_wp2_with (at_builtin;refine eL kH _ rfl _ _ rfl (bx + 1) am q cm _ rfl STB.out.row.own (.slice a i cc) rfl rfl ab hlo8 ?_;intro ao2 c2' w4 ho2 hg2 hat;have x4:=(STB.out.Eh hg2).cell 0;have f4:=(STB.out.Eh hg2).frozen 0)
       have SP:=Lib.hid (ST.out.push ab hb8 HO8.out (Below.refl _ _) ho2 hg2 (hat.imp id fun e=>⟨_,e,Nat.le_succ _⟩))
       clear ho2 hg2 hat STB ST
       go_roundw
       case rel=>exact ⟨q + 1,ao2,c2',_,by go_num,ab,by rw [HZS.out];exact SP.out⟩
       case measure=>simp [intOf];omega
    ·obtain rfl:q=n:=by omega
     have hall:(iM d n0 f).take q=iM d n0 f:=List.take_of_length_le (by simp [iM];omega)
     rw [hall] at st
     have xb:=st.cell
     have HBA:=Lib.hid (HB.out.trans (st.bel.mono hzB))
     have KRr:=KR2.out.bm HBA.out
     have xr:=KRr.cell 0
     have fr:=KRr.frozen 0
     have BF:=Lib.hid (B2.out.trans (HBA.out.mono hz2))
     have ST:=Lib.hid st
     have hwb:w.heap.size≤wB.heap.size:=by omega
     simp at xr
     clear st
     go_wp2
     have hfl:w.heap.size < bx:=by rw [←HBX.out];omega
     exact bodyPost_ret (v:= .agg #[.slice am q cm]) (by simp [results,Try.f43,go_sem,xr]) rfl ⟨_,rfl,ST.out.done hfl _ hwb,BF.out.setCell (by simp) _⟩
end Go.Proofs.Ytfpcfckocmmcnaa
namespace Go.Proofs.Ytfpcfckocmmcnaa
open Go.RowKit
theorem qP {d:List (List Int)} {i m j:Nat} (hj:j < m):aT ((d.drop i).take m) j=aT d (i + j):=by
 unfold aT
 rw [List.getD_eq_getElem?_getD,List.getD_eq_getElem?_getD,List.getElem?_take_of_lt hj,List.getElem?_drop]
theorem cM.sub {w:World} {b off n c:Nat} {d:List (List Int)} (h:cM w (.slice (some ⟨b,off,none⟩) n c) d) {i m:Nat} (hi:i + m≤n) (hm:0 < m):cM w (.slice (some ⟨b,off + i,none⟩) m (c - i)) ((d.drop i).take m):=by
 obtain ⟨ao,c',e,hn,hc⟩:=h
 injection e with e1 e2 e3
 subst e2 e3
 obtain ⟨h1,b',off',e4,hlt,h2⟩:=hc ab
 rw [←e1] at e4
 injection e4 with e4
 injection e4 with e41 e42
 subst e41 e42
 have hl:((d.drop i).take m).length=m:=by simp;omega
 refine ⟨some ⟨b,off + i,none⟩,c - i,by rw [hl],ab,fun _=>⟨ab,b,off + i,rfl,hlt,fun j hj=> ?_⟩⟩
 rw [hl] at hj
 obtain ⟨a',k,h3,h4,h5⟩:=h2 (i + j) ab
 rw [qP hj,Nat.add_assoc]
 exact ⟨a',k,h3,h4,h5⟩
theorem uu {d:List (List Int)} {N i m:Nat} (hT:dh d N) (hi:i + m≤d.length):dh ((d.drop i).take m) N:=by
 have hl:((d.drop i).take m).length=m:=by simp;omega
 refine ⟨fun k hk=> ?_,fun k hk x hx=> ?_⟩
 ·rw [hl] at hk;rw [qP hk];exact hT.len _ ab
 ·rw [hl] at hk;rw [qP hk];exact hT.within _ ab x hx
theorem pt (mb:Nat) (ao:Option Addr) (n c N:Nat) (d:List (List Int)) (w:World) (hm:dQ w mb 29 #[.slice ao n c]) (h:mN w (.slice ao n c) d) (hn:0 < n) (hl:(aT d 0).length=N) (hN:1≤N) (hN4:N≤1000000):
  Calls Try.prog 41 #[.pointer (some ⟨mb,0,none⟩), .int .i64 0] w fun e w'=>e= .returned (.bool true)∧w=w':=by
 have HM:=Lib.hid hm
 have HR:=Lib.hid h
 have hw1:IntKind.i64.wrap ((N:Int) - 1)=(N:Int) - 1:=IntWalk.i64_in _ ab
 have hB:kB (0:Int) 0 ((N:Int) - 1)=true:=by unfold kB;simp;omega
 clear hm h
 go_enter Try.func41,Try.ntmps41
 go_wp2_with (first | (go_at_call 58;refine (ib mb ao n c N d _ HM.out HR.out hn hl hN4).mono ?_;rintro e w' ⟨rfl,hw⟩;subst hw) | (go_at_call 52;refine (eK _ _ _ _).mono ?_;rintro e w' ⟨rfl,hw⟩;rw [hw,hB];clear hw w'))
 go_ret
 exact ⟨rfl,rfl⟩
theorem cM.ID {w:World} {ao:Option Addr} {n c:Nat} {d:List (List Int)} (h:cM w (.slice ao n c) d) (hn:0 < n):n≤c∧∃b off,ao=some ⟨b,off,none⟩:=by
 have hl:=h.fw.1
 obtain ⟨a',c1,e,hn',hc⟩:=h
 injection e with e1 e2 e3
 obtain ⟨h1,b,off,h2, -⟩:=hc ab
 exact ⟨ab,b,off,by rw [e1,h2]⟩
def CD (w:World) (L:List (List Int)) (e:Ending) (w':World):Prop:=∃v,e= .returned (.tuple #[v, .int .i64 0])∧sQ 2 24 w' w.heap.size w'.heap.size v L∧Below w.heap.size w w'
theorem AM (ao:Option Addr) (n c N:Nat) (d:List (List Int)) (w:World) (hd:cM w (.slice ao n c) d) (hM:dW d) (hN:cn d=N) (h2:2≤d.length):
  Calls Try.prog 15 #[.agg #[.slice ao n c], .int .i64 0] w (CD w (iM ((d.drop 0).take (n - 1)) N 0)):=by
 have hdl:=hd.fw.1
 obtain ⟨hnc,b,off,rfl⟩:=hd.ID ab
 have hd5:=hM.n5
 have hN2:2≤N:=by rw [←hN];exact hM.f2
 have hN4:N≤400:=by rw [←hN];exact hM.f4
 have hT:dh d N:=by rw [←hN];exact bM hM
 have HI:=Lib.hid (fun (w:World) (h:cM w (.slice (some ⟨b,off,none⟩) n c) d)=>ji h (kW hM))
 have HB:=Lib.hid (iJ hM)
 have HN:=Lib.hid hN
 have HS:=Lib.hid (uu (i:=0) (m:=n - 1) hT ab)
 have hsl:((d.drop 0).take (n - 1)).length=n - 1:=by simp;omega
 have b0:=below_alloc2 w (.cells #[.slice (some ⟨b,off,none⟩) n c] 29) (.cells #[.slice none 0 0] 29)
 have km:dQ ((w.alloc (.cells #[.slice (some ⟨b,off,none⟩) n c] 29)).alloc (.cells #[.slice none 0 0] 29)) w.heap.size 29 #[.slice (some ⟨b,off,none⟩) n c]:=(bS rfl).alloc _
 have kr:dQ ((w.alloc (.cells #[.slice (some ⟨b,off,none⟩) n c] 29)).alloc (.cells #[.slice none 0 0] 29)) (w.heap.size + 1) 29 #[.slice none 0 0]:=bS (by simp)
 have hz0:w.heap.size + 2=((w.alloc (.cells #[.slice (some ⟨b,off,none⟩) n c] 29)).alloc (.cells #[.slice none 0 0] 29)).heap.size:=by simp
 have hd1:=Lib.hid (hd.below b0)
 have hz1:=b0.size
 have x0:=km.cell 0
 simp at x0
 clear hd hM hN hT
 go_enter Try.func15,Try.ntmps15
 go_wp2_with fail
 generalize (w.alloc (.cells #[.slice (some ⟨b,off,none⟩) n c] 29)).alloc (.cells #[.slice none 0 0] 29)=w1 at *
 refine (HI.out _ hd1.out).mono ?_
 rintro r w2 ⟨rfl,b2⟩
 rw [HB.out]
 have KM2:=Lib.hid (km.bm b2)
 have KR2:=Lib.hid (kr.bm b2)
 have hz12:=b2.size
 have HB2:=Lib.hid (b0.trans (b2.mono hz1))
 have hd2:=Lib.hid (hd1.out.below b2)
 clear km kr b0 b2 hd1 x0
 have x2:=KM2.out.cell 0
 simp at x2
 go_wp2_with (first
  | (go_at_call 41;refine (pt _ (some ⟨b,off,none⟩) n c N d w2 KM2.out hd2.out.rd ab HN.out ab ab).mono ?_;rintro e w' ⟨rfl,hw⟩;subst hw)
  | (go_at_call 42;refine (g9 _ n c (some ⟨b,off,none⟩) w2 KM2.out).mono ?_;rintro e w' ⟨rfl,hw⟩;subst hw))
 have S0:=Lib.hid (show ∀w',Below w2.heap.size w2 w'→(Below w.heap.size w w'∧w'.cell? ⟨w.heap.size,0,none⟩=some (.slice (some ⟨b,off,none⟩) n c)) from fun w' hb=>⟨HB2.out.trans (hb.mono HB2.out.size),by have:=(KM2.out.bm hb).cell 0;simpa using this⟩)
 have K0:=Lib.hid (S0.out w2.drew (db w2))
 have hn1c:n≤c + 1:=by omega
 have HP:=Lib.hid ((hd2.out.sub (i:=0) (m:=n - 1) ab ab))
 have hnci:(n:Int) - 1≤(c:Int):=by omega
 have hn10:(0:Int)≤(n:Int) - 1:=by omega
 have hnw:IntKind.i64.wrap ((n:Int) - 1)=((n - 1:Nat):Int):=by rw [show (n:Int) - 1=((n - 1:Nat):Int) by omega];exact IntWalk.i64_in _ ab
 have hnt:((n:Int) - 1).toNat=n - 1:=by omega
 have hz2:=HB2.out.size
 have b2z:w1.heap.size≤w2.heap.size:=hz12
 go_region_held3 (fun w'=>Below w.heap.size w w'∧w'.cell? ⟨w.heap.size,0,none⟩=some (.slice (some ⟨b,off,none⟩) n c)) (first | exact K0.out | exact K5.out | exact K6.out) (first
  | (go_at_call 42;refine (g9 _ n c _ _ (KM2.out.drewN 1)).mono ?_;rintro e w' ⟨rfl,hw⟩;subst hw)
  | (go_at_call 43;refine (mz _ (n - 1) _ 0 N _ _ (HP.out.drewN 1) HS.out (by rw [hsl];omega) (by rw [hsl];omega) hN2 hN4 ab).mono ?_;rintro e w5 ⟨v5,rfl,o5,b5⟩;obtain ⟨a5,n5,c5,us5,rfl,or5⟩:=o5;have B5:Below w2.heap.size w2 w5:=bc b5 (db w2);have K5:=Lib.hid (S0.out w5 B5);have KR5:=KR2.out.bm B5;have x5:=KR5.cell 0;have f5:=KR5.frozen 0;simp at x5;have K6:=Lib.hid (show Below w.heap.size w (w5.setCell ⟨w.heap.size + 1,0,none⟩ (.slice a5 n5 c5))∧(w5.setCell ⟨w.heap.size + 1,0,none⟩ (.slice a5 n5 c5)).cell? ⟨w.heap.size,0,none⟩=some (.slice (some ⟨b,off,none⟩) n c) from ⟨K5.out.1.setCell (by simp) _,(World.cell?_setCell_other _ _ _ _ (by simp)).trans K5.out.2⟩)))
 all_goals
  have O5:=Lib.hid (show sQ 2 24 (w5.setCell ⟨w.heap.size + 1,0,none⟩ (.slice a5 n5 c5)) w.heap.size (w5.setCell ⟨w.heap.size + 1,0,none⟩ (.slice a5 n5 c5)).heap.size (.agg #[.slice a5 n5 c5]) (iM ((d.drop 0).take (n - 1)) N 0) from by
   have hh:(w5.setCell ⟨w.heap.size + 1,0,none⟩ (.slice a5 n5 c5)).heap.size=w5.heap.size:=by simp [World.setCell]
   refine ⟨a5,n5,c5,us5,rfl, ?_⟩
   rw [hh]
   have or5':eT (jV 2) w5 w2.heap.size w5.heap.size 24 a5 n5 c5 us5 (iM ((d.drop 0).take (n - 1)) N 0):=or5
   exact (or5'.same (cJ _) fun g h1 _ _=>Below.heap_setCell _ _ _ _ (by simp;omega)).mono hz2 (Nat.le_refl _))
  go_wp2_with fail
  exact bodyPost_ret (v:= .tuple #[.agg #[.slice a5 n5 c5], .int .i64 0]) (by simp [results,Try.f15,go_sem,x5]) rfl ⟨_,rfl,O5.out,K6.out.1⟩
theorem zo (ao:Option Addr) (n c N:Nat) (d:List (List Int)) (w:World) (hd:cM w (.slice ao n c) d) (hM:dW d) (hN:cn d=N) (h2:2≤d.length):
  Calls Try.prog 16 #[.agg #[.slice ao n c], .int .i64 0] w (CD w (iM ((d.drop 1).take (n - 1)) N 0)):=by
 have hdl:=hd.fw.1
 obtain ⟨hnc,b,off,rfl⟩:=hd.ID ab
 have hd5:=hM.n5
 have hN2:2≤N:=by rw [←hN];exact hM.f2
 have hN4:N≤400:=by rw [←hN];exact hM.f4
 have hT:dh d N:=by rw [←hN];exact bM hM
 have HI:=Lib.hid (fun (w:World) (h:cM w (.slice (some ⟨b,off,none⟩) n c) d)=>ji h (kW hM))
 have HB:=Lib.hid (iJ hM)
 have HN:=Lib.hid hN
 have HS:=Lib.hid (uu (i:=1) (m:=n - 1) hT ab)
 have hsl:((d.drop 1).take (n - 1)).length=n - 1:=by simp;omega
 have b0:=below_alloc2 w (.cells #[.slice (some ⟨b,off,none⟩) n c] 29) (.cells #[.slice none 0 0] 29)
 have km:dQ ((w.alloc (.cells #[.slice (some ⟨b,off,none⟩) n c] 29)).alloc (.cells #[.slice none 0 0] 29)) w.heap.size 29 #[.slice (some ⟨b,off,none⟩) n c]:=(bS rfl).alloc _
 have kr:dQ ((w.alloc (.cells #[.slice (some ⟨b,off,none⟩) n c] 29)).alloc (.cells #[.slice none 0 0] 29)) (w.heap.size + 1) 29 #[.slice none 0 0]:=bS (by simp)
 have hz0:w.heap.size + 2=((w.alloc (.cells #[.slice (some ⟨b,off,none⟩) n c] 29)).alloc (.cells #[.slice none 0 0] 29)).heap.size:=by simp
 have hd1:=Lib.hid (hd.below b0)
 have hz1:=b0.size
 have x0:=km.cell 0
 simp at x0
 clear hd hM hN hT
 go_enter Try.func16,Try.ntmps16
 go_wp2_with fail
 generalize (w.alloc (.cells #[.slice (some ⟨b,off,none⟩) n c] 29)).alloc (.cells #[.slice none 0 0] 29)=w1 at *
 refine (HI.out _ hd1.out).mono ?_
 rintro r w2 ⟨rfl,b2⟩
 rw [HB.out]
 have KM2:=Lib.hid (km.bm b2)
 have KR2:=Lib.hid (kr.bm b2)
 have hz12:=b2.size
 have HB2:=Lib.hid (b0.trans (b2.mono hz1))
 have hd2:=Lib.hid (hd1.out.below b2)
 clear km kr b0 b2 hd1 x0
 have x2:=KM2.out.cell 0
 simp at x2
 go_wp2_with (first
  | (go_at_call 41;refine (pt _ (some ⟨b,off,none⟩) n c N d w2 KM2.out hd2.out.rd ab HN.out ab ab).mono ?_;rintro e w' ⟨rfl,hw⟩;subst hw)
  | (go_at_call 42;refine (g9 _ n c (some ⟨b,off,none⟩) w2 KM2.out).mono ?_;rintro e w' ⟨rfl,hw⟩;subst hw))
 have S0:=Lib.hid (show ∀w',Below w2.heap.size w2 w'→(Below w.heap.size w w'∧w'.cell? ⟨w.heap.size,0,none⟩=some (.slice (some ⟨b,off,none⟩) n c)) from fun w' hb=>⟨HB2.out.trans (hb.mono HB2.out.size),by have:=(KM2.out.bm hb).cell 0;simpa using this⟩)
 have K0:=Lib.hid (S0.out w2.drew (db w2))
 have hn1c:n≤c + 1:=by omega
 have hone:(1:Int)≤(n:Int):=by omega
 have hone':1≤n:=by omega
 have honec:(1:Int)≤(c:Int):=by omega
 have HP:=Lib.hid ((hd2.out.sub (i:=1) (m:=n - 1) ab ab))
 have hnci:(n:Int) - 1≤(c:Int):=by omega
 have hn10:(0:Int)≤(n:Int) - 1:=by omega
 have hnw:IntKind.i64.wrap ((n:Int) - 1)=((n - 1:Nat):Int):=by rw [show (n:Int) - 1=((n - 1:Nat):Int) by omega];exact IntWalk.i64_in _ ab
 have hnt:((n:Int) - 1).toNat=n - 1:=by omega
 have hz2:=HB2.out.size
 have b2z:w1.heap.size≤w2.heap.size:=hz12
 go_wp2_with (go_at_call 43;refine (mz _ (n - 1) _ 0 N _ _ HP.out HS.out (by rw [hsl];omega) (by rw [hsl];omega) hN2 hN4 ab).mono ?_;rintro e w5 ⟨v5,rfl,o5,b5⟩;obtain ⟨a5,n5,c5,us5,rfl,or5⟩:=o5;have B5:Below w2.heap.size w2 w5:=b5;have K5:=Lib.hid (S0.out w5 B5);have KR5:=KR2.out.bm B5;have x5:=KR5.cell 0;have f5:=KR5.frozen 0;simp at x5)
 all_goals
  have O5:=Lib.hid (show sQ 2 24 (w5.setCell ⟨w.heap.size + 1,0,none⟩ (.slice a5 n5 c5)) w.heap.size (w5.setCell ⟨w.heap.size + 1,0,none⟩ (.slice a5 n5 c5)).heap.size (.agg #[.slice a5 n5 c5]) (iM ((d.drop 1).take (n - 1)) N 0) from by
   have hh:(w5.setCell ⟨w.heap.size + 1,0,none⟩ (.slice a5 n5 c5)).heap.size=w5.heap.size:=by simp [World.setCell]
   refine ⟨a5,n5,c5,us5,rfl, ?_⟩
   rw [hh]
   have or5':eT (jV 2) w5 w2.heap.size w5.heap.size 24 a5 n5 c5 us5 (iM ((d.drop 1).take (n - 1)) N 0):=or5
   exact (or5'.same (cJ _) fun g h1 _ _=>Below.heap_setCell _ _ _ _ (by simp;omega)).mono hz2 (Nat.le_refl _))
  exact bodyPost_ret (v:= .tuple #[.agg #[.slice a5 n5 c5], .int .i64 0]) (by simp [results,Try.f16,go_sem,x5]) rfl ⟨_,rfl,O5.out,K5.out.1.setCell (by simp) _⟩
end Go.Proofs.Ytfpcfckocmmcnaa
namespace Go.Proofs.Ytfpcfckocmmcnaa
open Go.RowKit
theorem Cd (ao:Option Addr) (n c:Nat) (d:List (List Int)) (w:World) (hd:cM w (.slice ao n c) d) (hM:dW d) (hR:dW d.reverse):
  Calls Try.prog 17 #[.agg #[.slice ao n c]] w fun e w'=>∃v,e= .returned (.tuple #[v, .int .i64 0])∧sQ 2 24 w' w.heap.size w'.heap.size v (eA d.reverse 0)∧Below w.heap.size w w':=by
 have HI:=Lib.hid (fun (w:World) (h:cM w (.slice ao n c) d)=>ji h (kW hM))
 have HB:=Lib.hid (iJ hM)
 have HR:=Lib.hid hR
 have b0:=below_alloc2 w (.cells #[.slice ao n c] 29) (.cells #[.slice none 0 0] 29)
 have km:dQ ((w.alloc (.cells #[.slice ao n c] 29)).alloc (.cells #[.slice none 0 0] 29)) w.heap.size 29 #[.slice ao n c]:=(bS rfl).alloc _
 have kr:dQ ((w.alloc (.cells #[.slice ao n c] 29)).alloc (.cells #[.slice none 0 0] 29)) (w.heap.size + 1) 29 #[.slice none 0 0]:=bS (by simp)
 have hd1:=Lib.hid (hd.below b0)
 have hz1:=b0.size
 have x0:=km.cell 0
 simp at x0
 clear hd hM hR
 go_enter Try.func17,Try.ntmps17
 go_wp2_with fail
 generalize (w.alloc (.cells #[.slice ao n c] 29)).alloc (.cells #[.slice none 0 0] 29)=w1 at *
 refine (HI.out _ hd1.out).mono ?_
 rintro r w2 ⟨rfl,b2⟩
 rw [HB.out]
 have KM2:=Lib.hid (km.bm b2)
 have KR2:=Lib.hid (kr.bm b2)
 have HB2:=Lib.hid (b0.trans (b2.mono hz1))
 have hd2:=Lib.hid (hd1.out.below b2)
 clear km kr b0 b2 hd1 x0
 have x2:=KM2.out.cell 0
 simp at x2
 have hz2:=HB2.out.size
 go_wp2_with (go_at_call 44;refine (zl ao n c d w2 hd2.out HR.out).mono ?_;rintro e w5 ⟨v5,rfl,o5,b5⟩;obtain ⟨a5,n5,c5,us5,rfl,or5⟩:=o5;have B5:Below w2.heap.size w2 w5:=b5;have K5:=Lib.hid (HB2.out.trans (B5.mono HB2.out.size));have KR5:=KR2.out.bm B5;have x5:=KR5.cell 0;have f5:=KR5.frozen 0;simp at x5)
 have O5:=Lib.hid (show sQ 2 24 (w5.setCell ⟨w.heap.size + 1,0,none⟩ (.slice a5 n5 c5)) w.heap.size (w5.setCell ⟨w.heap.size + 1,0,none⟩ (.slice a5 n5 c5)).heap.size (.agg #[.slice a5 n5 c5]) (eA d.reverse 0) from by
  have hh:(w5.setCell ⟨w.heap.size + 1,0,none⟩ (.slice a5 n5 c5)).heap.size=w5.heap.size:=by simp [World.setCell]
  refine ⟨a5,n5,c5,us5,rfl, ?_⟩
  rw [hh]
  have hz1':w.heap.size + 1 < w2.heap.size:=KR2.out.lt
  exact (or5.same (cJ _) fun g h1 _ _=>Below.heap_setCell _ _ _ _ (by simp;omega)).mono hz2 (Nat.le_refl _))
 exact bodyPost_ret (v:= .tuple #[.agg #[.slice a5 n5 c5], .int .i64 0]) (by simp [results,Try.f17,go_sem,x5]) rfl ⟨_,rfl,O5.out,K5.out.setCell (by simp) _⟩
end Go.Proofs.Ytfpcfckocmmcnaa
namespace Go.Proofs.Ytfpcfckocmmcnaa
open Go.RowKit
end Go.Proofs.Ytfpcfckocmmcnaa
namespace Go.Proofs.Ytfpcfckocmmcnaa
open Go.RowKit
theorem Ee (ao:Option Addr) (n c:Nat) (w:World):Calls Try.prog 4 #[.slice ao n c] w fun e w'=>e= .returned (.bool (decide (4096 < n)))∧w'=w:=by
 by_cases h:4096 < n
 ·have e0:decide ((4096:Int) < n)=true:=by simp;omega
  go_enter Try.func4,Try.ntmps4
  go_wp2
  go_ret
  exact ⟨by simp [h],rfl⟩
 ·have e0:decide ((4096:Int) < n)=false:=by simp;omega
  go_enter Try.func4,Try.ntmps4
  go_wp2
  go_ret
  exact ⟨by simp [h],rfl⟩
end Go.Proofs.Ytfpcfckocmmcnaa
namespace Go.Proofs.Ytfpcfckocmmcnaa
open Go.RowKit
structure IJ (w wr:World) (al:Option Addr) (nl cl:Nat) (zs:List Int) (aw:Option Addr) (m:Nat) (ws:List (List Int)):Prop where
 nn:Own wr w.heap.size 2 al nl cl (zs.map (Value.int .i64))
 wds:ep wr aw m ws
 bel:Below w.heap.size w wr
theorem IJ.next {w wr w2:World} {al aw:Option Addr} {nl cl m:Nat} {zs:List Int} {ws:List (List Int)} (h:IJ w wr al nl cl zs aw m ws) (b:Below wr.heap.size wr w2):IJ w w2 al nl cl zs aw m ws:=⟨h.nn.below b,h.wds.below b,bc b h.bel⟩
structure Cb (wr:World) (b:Nat) (a:Option Addr) (n c:Nat) (d:List (List Int)):Prop where
 k:dQ wr b 29 #[.slice a n c]
 r:cM wr (.slice a n c) d
theorem Cb.next {wr w2:World} {b n c:Nat} {a:Option Addr} {d:List (List Int)} (h:Cb wr b a n c d) (q:Below wr.heap.size wr w2):Cb w2 b a n c d:=⟨h.k.bm q,h.r.below q⟩
theorem Cb.new {w:World} {lo hi n c:Nat} {a:Option Addr} {us:List Value} {d:List (List Int)} (h:eT (jV 2) w lo hi 24 a n c us d):Cb (w.alloc (.cells #[.slice a n c] 29)) w.heap.size a n c d:=⟨bS rfl,(pP.II ⟨_,_,_,_,rfl,h⟩).below (below_alloc1 _ _)⟩
theorem cM.IW {w:World} {a:Option Addr} {n c:Nat} {d:List (List Int)} (h:cM w (.slice a n c) d):d.length=n:=h.fw.1
structure F7 (wr:World) (b:Nat) (N:Int) (a:Option Addr) (n c:Nat) (d:di):Prop where
 k:dQ wr b 34 #[.int .i64 N, .slice a n c]
 o:∃lo hi,oN 2 24 wr lo hi (.agg #[.int .i64 N, .slice a n c]) d
theorem F7.next {wr w2:World} {b n c:Nat} {N:Int} {a:Option Addr} {d:di} (h:F7 wr b N a n c d) (q:Below wr.heap.size wr w2):F7 w2 b N a n c d:=⟨h.k.bm q,by obtain ⟨lo,hi,o⟩:=h.o;exact ⟨lo,hi,o.below q⟩⟩
theorem F7.new {w:World} {lo hi n c:Nat} {N:Int} {a:Option Addr} {d:di} (h:oN 2 24 w lo hi (.agg #[.int .i64 N, .slice a n c]) d):F7 (w.alloc (.cells #[.int .i64 N, .slice a n c] 34)) w.heap.size N a n c d:=⟨bS rfl,⟨lo,hi,h.below (below_alloc1 _ _)⟩⟩
theorem DS {zs:List Int} {ws:List (List Int)} (h:fy zs ws≠0):eB zs ws= []:=by unfold eB;rw [if_neg h]
theorem qu (w:World):mN w (.slice none 0 0) []:=⟨none,0,0,rfl,rfl,ab,fun h=>absurd h ab⟩
theorem cW.H7 {w:World} {g k:Nat} {zs:List Int} (h:cW w (some ⟨g,0,none⟩) (k + 1) zs):cW w (some ⟨g,0,none⟩) k zs.dropLast:=by
 have hl:=h.1
 refine ⟨by simp;omega,by have:=h.2.1;omega,fun hk=> ?_⟩
 obtain ⟨b,off,e,hc⟩:=h.2.2 ab
 refine ⟨b,off,e,fun j hj=> ?_⟩
 rw [qe ab]
 exact hc j ab
theorem cW.H3 {w:World} {g k:Nat} {zs:List Int} (h:cW w (some ⟨g,0,none⟩) (k + 1) zs):cW w (some ⟨g,1,none⟩) k zs.tail:=by
 have hl:=h.1
 refine ⟨by simp;omega,by have:=h.2.1;omega,fun hk=> ?_⟩
 obtain ⟨b,off,e,hc⟩:=h.2.2 ab
 injection e with e
 injection e with e1 e2
 subst e1 e2
 refine ⟨g,1,rfl,fun j hj=> ?_⟩
 have:=hc (j + 1) ab
 rw [show 0 + (j + 1)=1 + j by omega] at this
 rw [cA (by simp;omega),List.getElem_tail,←cA]
 exact this
theorem s8 {ao:Option Addr} {n c:Nat} (w:World) (h:Cp w ao n w.heap.size):
  Calls Try.prog 3 #[.slice ao n c] w fun e w'=>e= .returned (.bool true)∧Below w.heap.size w w':=by
 go_enter Try.func3,Try.ntmps3
 go_wp2_with fail
 refine (Ee ao n c w).mono ?_
 rintro e w1 ⟨rfl,hw1⟩
 obtain rfl:w=w1:=hw1.symm
 by_cases hbig:4096 < n
 ·go_wp2
  go_ret
  exact ⟨rfl,Below.refl _ _⟩
 ·go_wp2_with fail
  refine (yo ao n c w h).mono ?_
  rintro r w2 ⟨al,nl,cl,zs,aw,m,cw,ws,rfl,hA,ol,iw,b2⟩
  have HA:=Lib.hid hA
  have HZ:=Lib.hid (show zs.length=nl by have:=ol.len;simpa using this)
  have HW:=Lib.hid iw.1
  have S2:=Lib.hid (show IJ w w2 al nl cl zs aw m ws from ⟨ol,iw,b2⟩)
  clear hA h ol iw b2 hw1 hbig
  obtain ⟨C,hC⟩:∃C,fy zs ws=C:=⟨_,rfl⟩
  obtain ⟨R,hR⟩:∃R,eB zs ws=R:=⟨_,rfl⟩
  have HC:=Lib.hid (And.intro hC hR)
  go_wp2_with fail
  refine (jP w2 ⟨al,nl,cl,rfl,S2.out.nn.ints⟩ ⟨aw,m,cw,rfl,S2.out.wds⟩).mono ?_
  rw [hC,hR]
  rintro r w3 ⟨v3,rfl,⟨a3,n3,c3,us3,rfl,o3⟩,b3⟩
  have S3:=Lib.hid (S2.out.next b3)
  clear S2
  clear b3
  clear hC hR
  have q3:=below_alloc1 w3 (.cells #[.slice a3 n3 c3] 29)
  have S4:=Lib.hid (S3.out.next q3)
  clear S3
  have M4:=Lib.hid (Cb.new o3)
  clear q3
  go_upto_region 5 with fail
  generalize w3.alloc (.cells #[.slice a3 n3 c3] 29)=w4 at *
  clear o3
  obtain ⟨hC,hR⟩:=HC.out
  go_wp2_with fail
  refine (wF w4 ⟨al,nl,cl,rfl,S4.out.nn.ints⟩ ⟨aw,m,cw,rfl,S4.out.wds⟩).mono ?_
  rw [hC,hR]
  rintro r w5 ⟨v5,rfl,⟨a5,n5,c5,us5,rfl,o5⟩,b5⟩
  have S5:=Lib.hid (S4.out.next b5)
  clear S4
  have M5:=Lib.hid (M4.out.next b5)
  clear M4
  clear b5
  clear hC hR
  have q5:=below_alloc1 w5 (.cells #[.slice a5 n5 c5] 29)
  have S6:=Lib.hid (S5.out.next q5)
  clear S5
  have M6:=Lib.hid (M5.out.next q5)
  clear M5
  have D6:=Lib.hid (Cb.new o5)
  clear q5
  go_upto_region 6 with fail
  generalize w5.alloc (.cells #[.slice a5 n5 c5] 29)=w6 at *
  clear o5
  have xM6:=M6.out.k.cell 0
  simp at xM6
  have xD6:=D6.out.k.cell 0
  simp at xD6
  go_wp2_with fail
  refine (y8 a3 a5 n3 c3 n5 c5 R w6 M6.out.r.rd D6.out.r.rd).mono ?_
  rintro r w7 ⟨rfl,b7⟩
  clear xM6 xD6
  have S7:=Lib.hid (S6.out.next b7)
  clear S6
  have M7:=Lib.hid (M6.out.next b7)
  clear M6
  have D7:=Lib.hid (D6.out.next b7)
  clear D6
  clear b7
  clear D7
  have HN:=Lib.hid M7.out.r.IW
  by_cases hc:¬C=0
  ·have hn:n3=0:=by
    have h1:=DS (zs:=zs) (ws:=ws) (by rw [HC.out.1];exact hc)
    rw [HC.out.2] at h1
    have:=HN.out
    rw [h1] at this
    simpa using this.symm
   have ec:(C != 0)=true:=by simpa using hc
   subst hn
   clear hc HN HC
   have xM7:=M7.out.k.cell 0
   simp at xM7
   go_wp2_with fail
   exact bodyPost_ret (v:= .bool true) (by simp [results,Try.f3,go_sem]) rfl ⟨rfl,S7.out.bel⟩
  obtain rfl:C=0:=Decidable.not_not.1 hc
  clear hc
  obtain ⟨g1,g2,g3,g4,g5,g6,g7⟩:=GS HC.out.1
  rw [HC.out.2] at g3 g4 g5 g7
  have HG:=Lib.hid (And.intro g1 (And.intro g2 (And.intro g3 (And.intro g4 (And.intro g5 (And.intro g6 g7))))))
  have e1:zc zs=0:=by unfold zc;rw [if_pos g1]
  have e2:ze zs=aS zs:=by unfold ze;rw [if_pos g1]
  clear g1 g2 g3 g4 g5 g6 g7
  go_wp2_with fail
  refine (wS al nl cl zs w7 S7.out.nn.ints).mono ?_
  rw [e1,e2]
  rintro r w8 ⟨v8,rfl,⟨a8,n8,c8,us8,rfl,o8⟩,b8⟩
  have S8:=Lib.hid (S7.out.next b8)
  clear S7
  have M8:=Lib.hid (M7.out.next b8)
  clear M7
  clear b8
  clear e1 e2
  have q8:=below_alloc1 w8 (.cells #[.int .i64 (aS zs).1, .slice a8 n8 c8] 34)
  have S9:=Lib.hid (S8.out.next q8)
  clear S8
  have M9:=Lib.hid (M8.out.next q8)
  clear M8
  have P9:=Lib.hid (F7.new ⟨_,_,_,_,rfl,o8⟩)
  clear q8
  go_upto_region 11 with fail
  generalize w8.alloc (.cells #[.int .i64 (aS zs).1, .slice a8 n8 c8] 34)=w9 at *
  clear o8
  have e2:lu (aS zs) ws=0:=HG.out.2.1
  have e3:kT (aS zs) ws=dI zs ws:=rfl
  obtain ⟨lp,hp,op⟩:=P9.out.o
  have RP:=Lib.hid op.rd
  clear op lp hp
  have yP:=P9.out.k.cell 1
  simp at yP
  have xP9:=P9.out.k.cell 0
  simp at xP9
  go_wp2_with fail
  refine (yR w9 RP.out ⟨aw,m,cw,rfl,S9.out.wds⟩).mono ?_
  rw [e2,e3]
  rintro r w10 ⟨v10,rfl,⟨a10,n10,c10,us10,rfl,o10⟩,b10⟩
  clear xP9
  have S10:=Lib.hid (S9.out.next b10)
  clear S9
  have M10:=Lib.hid (M9.out.next b10)
  clear M9
  have P10:=Lib.hid (P9.out.next b10)
  clear P9
  clear b10
  clear e2 e3 RP yP
  clear P10
  have q10:=below_alloc1 w10 (.cells #[.int .i64 (dI zs ws).1, .slice a10 n10 c10] 34)
  have S11:=Lib.hid (S10.out.next q10)
  clear S10
  have M11:=Lib.hid (M10.out.next q10)
  clear M10
  have Q11:=Lib.hid (F7.new ⟨_,_,_,_,rfl,o10⟩)
  clear q10
  go_upto_region 12 with fail
  generalize w10.alloc (.cells #[.int .i64 (dI zs ws).1, .slice a10 n10 c10] 34)=w11 at *
  clear o10
  have e2:yv (dI zs ws) []=0:=HG.out.2.2.2.2.2.1
  have e3:yD (dI zs ws) []=(cn R:Int):=HG.out.2.2.2.2.2.2
  obtain ⟨lp,hp,op⟩:=Q11.out.o
  have RP:=Lib.hid op
  clear op
  have yP:=Q11.out.k.cell 1
  simp at yP
  have xQ11:=Q11.out.k.cell 0
  simp at xQ11
  go_wp2_with fail
  refine (sU w11 RP.out).mono ?_
  rw [e2,e3]
  rintro r w12 ⟨rfl,b12⟩
  clear xQ11
  have S12:=Lib.hid (S11.out.next b12)
  clear S11
  have M12:=Lib.hid (M11.out.next b12)
  clear M11
  have Q12:=Lib.hid (Q11.out.next b12)
  clear Q11
  clear b12
  clear e2 e3 RP yP lp hp
  clear Q12
  have e2:Gi R=0:=HG.out.2.2.2.1
  have e3:GW R=true:=HG.out.2.2.2.2.1
  have xM12:=M12.out.k.cell 0
  simp at xM12
  go_wp2_with fail
  refine (yF a3 n3 c3 R w12 M12.out.r (kW HG.out.2.2.1)).mono ?_
  rw [e2,e3]
  rintro r w13 ⟨rfl,b13⟩
  clear xM12
  have S13:=Lib.hid (S12.out.next b13)
  clear S12
  have M13:=Lib.hid (M12.out.next b13)
  clear M12
  clear b13
  clear e2 e3
  obtain ⟨N,hN⟩:∃N,cn R=N:=⟨_,rfl⟩
  rw [hN]
  have HF:=Lib.hid hN
  clear hN
  have xM13:=M13.out.k.cell 0
  simp at xM13
  go_wp2_with fail
  refine (Bh a3 n3 c3 R w13 M13.out.r HG.out.2.2.1).mono ?_
  rintro r w14 ⟨rfl,b14⟩
  clear xM13
  have S14:=Lib.hid (S13.out.next b14)
  clear S13
  have M14:=Lib.hid (M13.out.next b14)
  clear M13
  clear b14
  have hn0:0 < n3:=by have:=HN.out;have:=HG.out.2.2.1.n1;omega
  have xM14:=M14.out.k.cell 0
  simp at xM14
  go_wp2_with fail
  refine (zB a3 n3 c3 N R w14 M14.out.r.rd hn0 HF.out).mono ?_
  rintro r w15 ⟨rfl,b15⟩
  clear xM14
  have S15:=Lib.hid (S14.out.next b15)
  clear S14
  have M15:=Lib.hid (M14.out.next b15)
  clear M14
  clear b15
  by_cases hm:0 < m
  ·have em:decide ((m:Int) > 0)=true:=by simpa using hm
   go_wp2_with fail
   exact bodyPost_ret (v:= .bool true) (by simp [results,Try.f3,go_sem]) rfl ⟨rfl,S15.out.bel⟩
  obtain rfl:m=0:=by omega
  clear hm
  by_cases hl:nl=0
  ·subst hl
   go_wp2_with fail
   exact bodyPost_ret (v:= .bool true) (by simp [results,Try.f3,go_sem]) rfl ⟨rfl,S15.out.bel⟩
  have hws:ws= []:=List.length_eq_zero_iff.1 HW.out
  subst hws
  have hl1:0 < nl:=by omega
  have hne:zs≠ []:=fun e=>by have:=HZ.out;rw [e] at this;simp at this;omega
  obtain ⟨u1,u2,u3,u4⟩:=Ip HA.out hne HC.out.1
  rw [HC.out.2] at u2 u3 u4
  rw [HN.out,HF.out] at u2 u3
  obtain ⟨dg,hrr,hrn, -, -⟩:=zX HC.out.1
  have h2:2≤R.length:=by
   rw [HC.out.2] at hrr
   rw [hrr,iq]
   have:=HZ.out
   omega
  have H2:=Lib.hid h2
  have HD:=Lib.hid (And.intro dg u1)
  have U2:=Lib.hid u2
  have U3:=Lib.hid u3
  have U4:=Lib.hid u4
  obtain ⟨gl,rfl, -, -,hcl, -, -⟩:=S15.out.nn.form hl1
  clear h2 hl hne u1 u2 u3 u4 dg hrr hrn
  have xM15:=M15.out.k.cell 0
  simp at xM15
  go_wp2_with fail
  refine (AM a3 n3 c3 N R w15 M15.out.r HG.out.2.2.1 HF.out H2.out).mono ?_
  rintro r w16 ⟨v16,rfl,⟨a16,n16,c16,us16,rfl,o16⟩,b16⟩
  clear xM15
  have S16:=Lib.hid (S15.out.next b16)
  clear S15
  have M16:=Lib.hid (M15.out.next b16)
  clear M15
  clear b16
  have q16:=below_alloc1 w16 (.cells #[.slice a16 n16 c16] 29)
  have S17:=Lib.hid (S16.out.next q16)
  clear S16
  have M17:=Lib.hid (M16.out.next q16)
  clear M16
  have F17:=Lib.hid (Cb.new o16)
  clear q16
  go_upto_region 19 with fail
  generalize w16.alloc (.cells #[.slice a16 n16 c16] 29)=w17 at *
  clear o16
  have xM17:=M17.out.k.cell 0
  simp at xM17
  go_wp2_with fail
  refine (zo a3 n3 c3 N R w17 M17.out.r HG.out.2.2.1 HF.out H2.out).mono ?_
  rintro r w18 ⟨v18,rfl,⟨a18,n18,c18,us18,rfl,o18⟩,b18⟩
  clear xM17
  have S18:=Lib.hid (S17.out.next b18)
  clear S17
  have M18:=Lib.hid (M17.out.next b18)
  clear M17
  have F18:=Lib.hid (F17.out.next b18)
  clear F17
  clear b18
  have q18:=below_alloc1 w18 (.cells #[.slice a18 n18 c18] 29)
  have S19:=Lib.hid (S18.out.next q18)
  clear S18
  have M19:=Lib.hid (M18.out.next q18)
  clear M18
  have F19:=Lib.hid (F18.out.next q18)
  clear F18
  have G19:=Lib.hid (Cb.new o18)
  clear q18
  go_upto_region 20 with fail
  generalize w18.alloc (.cells #[.slice a18 n18 c18] 29)=w19 at *
  clear o18
  have xM19:=M19.out.k.cell 0
  simp at xM19
  go_wp2_with fail
  refine (Cd a3 n3 c3 R w19 M19.out.r HG.out.2.2.1 (zZ HG.out.2.2.1)).mono ?_
  rintro r w20 ⟨v20,rfl,⟨a20,n20,c20,us20,rfl,o20⟩,b20⟩
  clear xM19
  have S20:=Lib.hid (S19.out.next b20)
  clear S19
  have M20:=Lib.hid (M19.out.next b20)
  clear M19
  have F20:=Lib.hid (F19.out.next b20)
  clear F19
  have G20:=Lib.hid (G19.out.next b20)
  clear G19
  clear b20
  have q20:=below_alloc1 w20 (.cells #[.slice a20 n20 c20] 29)
  have S21:=Lib.hid (S20.out.next q20)
  clear S20
  have M21:=Lib.hid (M20.out.next q20)
  clear M20
  have F21:=Lib.hid (F20.out.next q20)
  clear F20
  have G21:=Lib.hid (G20.out.next q20)
  clear G20
  have J21:=Lib.hid (Cb.new o20)
  clear q20
  go_upto_region 21 with fail
  generalize w20.alloc (.cells #[.slice a20 n20 c20] 29)=w21 at *
  clear o20
  clear M21
  obtain ⟨k,rfl⟩:∃k,nl=k + 1:=⟨nl - 1,ab⟩
  have hk4:k≤4:=by
   have h1:=HD.out.1
   have h2:=HZ.out
   unfold cK at h1
   rw [Bool.and_eq_true] at h1
   have:=of_decide_eq_true h1.2
   omega
  have hwk:wrap64 (k:Int)=(k:Int):=by unfold wrap64;omega
  have hkc:k≤cl:=by omega
  have HL:=Lib.hid S21.out.nn.ints.H7
  obtain ⟨CA,hCA⟩:∃CA,fy zs.dropLast []=CA:=⟨_,rfl⟩
  have HCA:=Lib.hid hCA
  go_wp2_with fail
  refine (jP w21 ⟨_,k,cl,rfl,HL.out⟩ (qu _)).mono ?_
  rw [hCA]
  clear hCA
  rintro r w22 ⟨v22,rfl,⟨a22,n22,c22,us22,rfl,o22⟩,b22⟩
  have S22:=Lib.hid (S21.out.next b22)
  clear S21
  have F22:=Lib.hid (F21.out.next b22)
  clear F21
  have G22:=Lib.hid (G21.out.next b22)
  clear G21
  have J22:=Lib.hid (J21.out.next b22)
  clear J21
  clear b22
  clear HL
  have q22:=below_alloc1 w22 (.cells #[.slice a22 n22 c22] 29)
  have S23:=Lib.hid (S22.out.next q22)
  clear S22
  have F23:=Lib.hid (F22.out.next q22)
  clear F22
  have G23:=Lib.hid (G22.out.next q22)
  clear G22
  have J23:=Lib.hid (J22.out.next q22)
  clear J22
  have A23:=Lib.hid (Cb.new o22)
  clear q22
  go_upto_region 22 with fail
  generalize w22.alloc (.cells #[.slice a22 n22 c22] 29)=w23 at *
  clear o22
  have HL:=Lib.hid (fun (off:Nat) (q:k=0∨off=1)=>show cW w23 (some ⟨gl,off,none⟩) k zs.tail from by
   rcases q with q | q
   ·have hl:=HZ.out
    subst q
    exact ⟨by simp;omega,ab,fun h0=>absurd h0 ab⟩
   ·subst q
    exact S23.out.nn.ints.H3)
  obtain ⟨CB,hCB⟩:∃CB,fy zs.tail []=CB:=⟨_,rfl⟩
  have HCB:=Lib.hid hCB
  go_wp2_with fail
  all_goals
   refine (jP w23 ⟨_,_,_,rfl,HL.out _ ab⟩ (qu _)).mono ?_
   rw [hCB]
   clear hCB
   rintro r w24 ⟨v24,rfl,⟨a24,n24,c24,us24,rfl,o24⟩,b24⟩
   have S24:=Lib.hid (S23.out.next b24)
   clear S23
   have F24:=Lib.hid (F23.out.next b24)
   clear F23
   have G24:=Lib.hid (G23.out.next b24)
   clear G23
   have J24:=Lib.hid (J23.out.next b24)
   clear J23
   have A24:=Lib.hid (A23.out.next b24)
   clear A23
   clear b24
   clear HL
   have q24:=below_alloc1 w24 (.cells #[.slice a24 n24 c24] 29)
   have S25:=Lib.hid (S24.out.next q24)
   clear S24
   have F25:=Lib.hid (F24.out.next q24)
   clear F24
   have G25:=Lib.hid (G24.out.next q24)
   clear G24
   have J25:=Lib.hid (J24.out.next q24)
   clear J24
   have A25:=Lib.hid (A24.out.next q24)
   clear A24
   have B25:=Lib.hid (Cb.new o24)
   clear q24
   go_upto_region 23 with fail
   generalize w24.alloc (.cells #[.slice a24 n24 c24] 29)=w25 at *
   clear o24
   have er:xZ zs=0:=by unfold xZ;rw [if_pos HD.out.1]
   have er2:vP zs=zs.reverse:=by unfold vP;rw [if_pos HD.out.1];rfl
   go_wp2_with fail
   refine (pQ w25 ⟨_,_,_,rfl,S25.out.nn.ints⟩ (by have:=HZ.out;omega)).mono ?_
   rw [er,er2]
   clear er er2
   rintro r w26 ⟨v26,rfl,⟨⟨a26,n26,c26,rfl,ow26⟩,oi26⟩,b26⟩
   have S26:=Lib.hid (S25.out.next b26)
   clear S25
   have F26:=Lib.hid (F25.out.next b26)
   clear F25
   have G26:=Lib.hid (G25.out.next b26)
   clear G25
   have J26:=Lib.hid (J25.out.next b26)
   clear J25
   have A26:=Lib.hid (A25.out.next b26)
   clear A25
   have B26:=Lib.hid (B25.out.next b26)
   clear B25
   clear b26
   obtain ⟨CE,hCE⟩:∃CE,fy zs.reverse []=CE:=⟨_,rfl⟩
   have HCE:=Lib.hid hCE
   have HV:=Lib.hid ow26.ints
   clear ow26 oi26
   go_wp2_with fail
   refine (jP w26 ⟨_,_,_,rfl,HV.out⟩ (qu _)).mono ?_
   rw [hCE]
   clear hCE
   rintro r w27 ⟨v27,rfl,⟨a27,n27,c27,us27,rfl,o27⟩,b27⟩
   have S27:=Lib.hid (S26.out.next b27)
   clear S26
   have F27:=Lib.hid (F26.out.next b27)
   clear F26
   have G27:=Lib.hid (G26.out.next b27)
   clear G26
   have J27:=Lib.hid (J26.out.next b27)
   clear J26
   have A27:=Lib.hid (A26.out.next b27)
   clear A26
   have B27:=Lib.hid (B26.out.next b27)
   clear B26
   clear b27
   clear HV
   have q27:=below_alloc1 w27 (.cells #[.slice a27 n27 c27] 29)
   have S28:=Lib.hid (S27.out.next q27)
   clear S27
   have F28:=Lib.hid (F27.out.next q27)
   clear F27
   have G28:=Lib.hid (G27.out.next q27)
   clear G27
   have J28:=Lib.hid (J27.out.next q27)
   clear J27
   have A28:=Lib.hid (A27.out.next q27)
   clear A27
   have B28:=Lib.hid (B27.out.next q27)
   clear B27
   have E28:=Lib.hid (Cb.new o27)
   clear q27
   go_upto_region 25 with fail
   generalize w27.alloc (.cells #[.slice a27 n27 c27] 29)=w28 at *
   clear o27
   rcases U2.out with ⟨p1,p2,p3⟩ | p4
   rotate_left
   ·obtain rfl:CA=3:=by rw [←HCA.out];exact p4
    go_wp2_with fail
    exact bodyPost_ret (v:= .bool true) (by simp [results,Try.f3,go_sem]) rfl ⟨rfl,S28.out.bel⟩
   obtain rfl:CA=0:=by rw [←HCA.out];exact p1
   have Lp:=oV p2
   have Hp:=Lib.hid (And.intro p2 (And.intro p3 Lp))
   clear p1 p2 p3 Lp
   rcases U3.out with ⟨q1,q2,q3⟩ | q4
   rotate_left
   ·obtain rfl:CB=3:=by rw [←HCB.out];exact q4
    go_wp2_with fail
    exact bodyPost_ret (v:= .bool true) (by simp [results,Try.f3,go_sem]) rfl ⟨rfl,S28.out.bel⟩
   obtain rfl:CB=0:=by rw [←HCB.out];exact q1
   have Lq:=oV q2
   have Hq:=Lib.hid (And.intro q2 (And.intro q3 Lq))
   clear q1 q2 q3 Lq
   rcases U4.out with ⟨s1,s2,s3⟩ | s4
   rotate_left
   ·obtain rfl:CE=3:=by rw [←HCE.out];exact s4
    go_wp2_with fail
    exact bodyPost_ret (v:= .bool true) (by simp [results,Try.f3,go_sem]) rfl ⟨rfl,S28.out.bel⟩
   obtain rfl:CE=0:=by rw [←HCE.out];exact s1
   have Ls:=oV s2
   have Hs:=Lib.hid (And.intro s2 (And.intro s3 Ls))
   clear s1 s2 s3 Ls
   have xF28:=F28.out.k.cell 0
   simp at xF28
   have xA28:=A28.out.k.cell 0
   simp at xA28
   go_wp2_with fail
   refine (m7 a16 a22 n16 c16 n22 c22 (cn (eB zs.dropLast [])) (eA (eB zs.dropLast []) 0) (eB zs.dropLast []) w28 (by rw [←Hp.out.2.1];exact F28.out.r) A28.out.r Hp.out.2.2.1 Hp.out.1 Hp.out.2.2.2.1 rfl Hp.out.2.2.2.2).mono ?_
   rintro r w29 ⟨rfl,b29⟩
   clear xF28 xA28
   have S29:=Lib.hid (S28.out.next b29)
   clear S28
   have F29:=Lib.hid (F28.out.next b29)
   clear F28
   have G29:=Lib.hid (G28.out.next b29)
   clear G28
   have J29:=Lib.hid (J28.out.next b29)
   clear J28
   have A29:=Lib.hid (A28.out.next b29)
   clear A28
   have B29:=Lib.hid (B28.out.next b29)
   clear B28
   have E29:=Lib.hid (E28.out.next b29)
   clear E28
   clear b29
   have xG29:=G29.out.k.cell 0
   simp at xG29
   have xB29:=B29.out.k.cell 0
   simp at xB29
   go_wp2_with fail
   refine (m7 a18 a24 n18 c18 n24 c24 (cn (eB zs.tail [])) (eA (eB zs.tail []) 0) (eB zs.tail []) w29 (by rw [←Hq.out.2.1];exact G29.out.r) B29.out.r Hq.out.2.2.1 Hq.out.1 Hq.out.2.2.2.1 rfl Hq.out.2.2.2.2).mono ?_
   rintro r w30 ⟨rfl,b30⟩
   clear xG29 xB29
   have S30:=Lib.hid (S29.out.next b30)
   clear S29
   have F30:=Lib.hid (F29.out.next b30)
   clear F29
   have G30:=Lib.hid (G29.out.next b30)
   clear G29
   have J30:=Lib.hid (J29.out.next b30)
   clear J29
   have A30:=Lib.hid (A29.out.next b30)
   clear A29
   have B30:=Lib.hid (B29.out.next b30)
   clear B29
   have E30:=Lib.hid (E29.out.next b30)
   clear E29
   clear b30
   have xJ30:=J30.out.k.cell 0
   simp at xJ30
   have xE30:=E30.out.k.cell 0
   simp at xE30
   go_wp2_with fail
   refine (m7 a20 a27 n20 c20 n27 c27 (cn (eB zs.reverse [])) (eA (eB zs.reverse []) 0) (eB zs.reverse []) w30 (by rw [←Hs.out.2.1];exact J30.out.r) E30.out.r Hs.out.2.2.1 Hs.out.1 Hs.out.2.2.2.1 rfl Hs.out.2.2.2.2).mono ?_
   rintro r w31 ⟨rfl,b31⟩
   clear xJ30 xE30
   have S31:=Lib.hid (S30.out.next b31)
   clear S30
   have F31:=Lib.hid (F30.out.next b31)
   clear F30
   have G31:=Lib.hid (G30.out.next b31)
   clear G30
   have J31:=Lib.hid (J30.out.next b31)
   clear J30
   have A31:=Lib.hid (A30.out.next b31)
   clear A30
   have B31:=Lib.hid (B30.out.next b31)
   clear B30
   have E31:=Lib.hid (E30.out.next b31)
   clear E30
   clear b31
   go_wp2_with fail
   exact bodyPost_ret (v:= .bool true) (by simp [results,Try.f3,go_sem]) rfl ⟨rfl,S31.out.bel⟩
end Go.Proofs.Ytfpcfckocmmcnaa
