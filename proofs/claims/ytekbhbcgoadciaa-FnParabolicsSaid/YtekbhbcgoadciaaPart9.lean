/- The presentation of a diagram: the program's walk. -/
import Derived.Test.YtekbhbcgoadciaaPart8
import Derived.Test.YtekbhbcgoadciaaPart2
import Derived.Test.YtekbhbcgoadciaaPart5
import Derived.Test.YtekbhbcgoadciaaProg
import Derived.Test.YtekbhbcgoadciaaPart3
import Derived.Test.YtekbhbcgoadciaaPart4
namespace Go.Proofs.Ytekbhbcgoadciaa
open Go.RowKit
set_option maxRecDepth 100000 in
set_option maxHeartbeats 1600000 in
theorem si (ao:Option Addr) (n c:Nat) (zs:List Int) (w:World) (h:cY w ao n zs) (hz:∀j,j < n→0≤aC zs j∧aC zs j≤32) (hn:n < 5):
  Calls Try.prog 19 #[.slice ao n c] w fun e w'=>∃v,e= .returned v∧sf 2 24 w' w.heap.size w'.heap.size v (bB zs)∧Below w.heap.size w w':=by
 have HL:=Lib.hid h.1
 obtain ⟨N,hN⟩:∃N,n + 1=N:=⟨_,rfl⟩
 have hN5:N≤5:=by omega
 go_enter Try.func19,Try.ntmps19
 go_wp2_with (go_at_call 22;refine (yW ao n c _).mono ?_;rintro e w1 ⟨rfl,rfl⟩)
 rw [show ((n:Int) + 1)=(N:Int) by omega]
 have r0:gF ((w.alloc (.cells #[.int .i64 0, .slice none 0 0] 32)).alloc (.cells #[.int .i64 N, .slice none 0 0] 32)) w.heap.size 32 #[.int .i64 0, .slice none 0 0]:=(fU rfl).alloc _
 have r1:gF ((w.alloc (.cells #[.int .i64 0, .slice none 0 0] 32)).alloc (.cells #[.int .i64 N, .slice none 0 0] 32)) (w.heap.size + 1) 32 #[.int .i64 N, .slice none 0 0]:=fU (by simp)
 go_loopw [14] (fun i wr=>∃(k m:Nat) (ao':Option Addr) (c':Nat) (us:List Value),i= .int .i64 k∧k≤N∧oS w wr N ao' m c' us (jW zs N k)) (fun i _=>N - (intOf i).toNat)
 case atStart=>exact ⟨0,0,none,0, [],rfl,Nat.zero_le _,r0,r1,iC.jL (Own.zx _ _ _) (fun g hg=>by cases hg),by simp,below_alloc2 _ _ _,by omega⟩
 case round=>
  obtain ⟨k,m,ao',c',us,rfl,hk,st⟩:=hrel
  by_cases hlt:k < N
  ·have x0:=st.box.cell 0
   simp at x0
   have ST:=Lib.hid st
   clear st r0 r1
   go_wp2_with fail
   go_loopw [6] (fun i wr=>∃(j m:Nat) (ao':Option Addr) (c':Nat) (us:List Value),i= .int .i64 j∧k < j∧j≤N∧oS w wr N ao' m c' us (jW zs N k ++ fB zs k (j - (k + 1)))) (fun i _=>N - (intOf i).toNat)
   case atStart=>exact ⟨k + 1,m,ao',c',us,by simp,by omega,by omega,by simpa [fB] using ST.out⟩
   case round=>
    obtain ⟨j,m,ao',c',us,rfl,hkj,hj,st⟩:=hrel
    clear ST x0
    have x0:=st.box.cell 0
    have x1:=st.box.cell 1
    have f1:=st.box.frozen 1
    simp at x0 x1
    have ST:=Lib.hid st
    clear st
    by_cases hlt2:j < N
    ·by_cases hjk:j=k + 1
     ·subst hjk
      obtain ⟨L,hL⟩:∃L:Nat,aC zs k=(L:Int):=⟨(aC zs k).toNat,by have:=hz k (by omega);omega⟩
      have hL2:L≤32:=by have:=hz k (by omega);omega
      have hlab:ia zs k (k + 1)=(L:Int):=by unfold ia;rw [if_pos rfl,hL]
      have HLAB:=Lib.hid hlab
      clear hlab
      obtain ⟨b,off,rfl,hc⟩:=(h.below ST.out.below).at_ (k:=k) (by omega)
      rw [hL] at hc
      by_cases hL0:0 < L
      ·have hm:m + 1≤1000:=by have h1:=ST.out.row.len;have h2:=qG zs N k;have h3:=lf zs k ((k + 1) - (k + 1));have h4:N * k≤5 * 5:=Nat.mul_le_mul hN5 (by omega);rw [List.length_append] at h1;omega
       have hP:cY (wr.alloc (.cells #[.int .i64 k, .int .i64 ((k:Int) + 1)] 2)).drew (some ⟨wr.heap.size,0,none⟩) 2 [(k:Int),((k:Int) + 1)]:=Own.ints (zs:= [(k:Int),((k:Int) + 1)]) (ri (us:= [.int .i64 k, .int .i64 ((k:Int) + 1)]) rfl (Nat.le_refl _) (by simp))
       have bP:Below wr.heap.size wr (wr.alloc (.cells #[.int .i64 k, .int .i64 ((k:Int) + 1)] 2)):=below_alloc1 _ _
       have HP:=Lib.hid hP
       have BP:=Lib.hid bP
       have HM:=Lib.hid hm
       have hsz:=ST.out.size
       have HO:Hid (fY zs k (k + 1)= [dw [(k:Int),((k:Int) + 1)] L]):=Lib.hid (by unfold fY;rw [HLAB.out,if_pos (by omega)];rfl)
       clear hP bP hm
       go_wp2_with fail
       have xP:(wr.alloc (.cells #[.int .i64 k, .int .i64 ((k:Int) + 1)] 2)).cell? ⟨w.heap.size + 1,1,none⟩=some (.slice ao' m c'):=(ST.out.box.alloc _).cell 1
       go_region_law (first | (refine sj (o:=⟨some 42,_,_,_,_,_⟩) BF rfl (.tmp 35) (.tmp 41) rfl (w.heap.size + 2) ao' m c' us rfl (ST.out.row.own.below B3) (.slice a1 (2 * L) c1) w2.heap.size 1 rfl ((fU rfl).cell 0) rfl (by have:=HM.out;omega) (by have:=B3.size;simp at *;omega) ?_;intro ao2 c2 w4 o4 g4 hat;have B4S:Below (w.heap.size + 2) wr w4:=(B3S.grown g4 (by have:=B3.size;omega) (fun g hg=>(ST.out.row.own.lt g hg).1));have x4:w4.cell? ⟨w.heap.size + 1,1,none⟩=some (.slice ao' m c'):=(ST.out.box.below B4S (by omega)).cell 1;have f4:w4.frozen? ⟨w.heap.size + 1,1,none⟩=false:=(ST.out.box.below B4S (by omega)).frozen 1) | (go_simp;go_at_call 37;refine (lj _ 2 2 L [(k:Int),((k:Int) + 1)] _ HP.out (by omega) (by omega) (by omega) (by omega)).mono ?_;rintro e w2 ⟨a1,c1,rfl,o1,b1⟩;have B2:Below wr.heap.size wr w2:=dW b1 BP.out.drew;have B2S:=B2.mono hsz;have B3:Below wr.heap.size wr (w2.alloc (.cells #[.slice a1 (2 * L) c1] 24)):=B2.alloc B2.size _;have B3S:=B3.mono hsz;have x2:w2.cell? ⟨w.heap.size + 1,1,none⟩=some (.slice ao' m c'):=(ST.out.box.below B2S (by omega)).cell 1;have x3:(w2.alloc (.cells #[.slice a1 (2 * L) c1] 24)).cell? ⟨w.heap.size + 1,1,none⟩=some (.slice ao' m c'):=(ST.out.box.below B3S (by omega)).cell 1))
       all_goals
        have st2:=ST.out.push HM.out B2 (o1.mono (by simp [World.drew])) (below_alloc1 _ _) o4 g4 hat
        have hs4:=B4S.size
        generalize w4.setCell ⟨w.heap.size + 1,1,none⟩ (.slice ao2 (m + 1) c2)=wf at *
        clear B2 B2S B3 B3S B4S x0 x1 x2 x3 x4 xP f1 f4 o1 b1 o4 g4 hat ST HP BP
        go_wp2_with fail
        go_roundw
        case rel=>exact ⟨(k + 1) + 1,m + 1,ao2,c2,_,by go_num,by omega,by omega,by rw [lv (by omega),←List.append_assoc,HO.out];exact st2⟩
        case measure=>simp [intOf];omega
      ·obtain rfl:L=0:=by omega
       have HO:Hid (fY zs k (k + 1)= []):=Lib.hid (by unfold fY;rw [HLAB.out,if_neg (by omega)])
       go_wp2_with fail
       go_roundw
       case rel=>exact ⟨k + 1 + 1,m,ao',c',us,by go_num,by omega,by omega,by rw [lv (by omega),←List.append_assoc,HO.out,List.append_nil];exact ST.out⟩
       case measure=>simp [intOf];omega
     ·have hm:m + 1≤1000:=by have h1:=ST.out.row.len;have h2:=qG zs N k;have h3:=lf zs k (j - (k + 1));have h4:N * k≤5 * 5:=Nat.mul_le_mul hN5 (by omega);rw [List.length_append] at h1;omega
      have hP:cY (wr.alloc (.cells #[.int .i64 k, .int .i64 (j:Int)] 2)).drew (some ⟨wr.heap.size,0,none⟩) 2 [(k:Int),(j:Int)]:=Own.ints (zs:= [(k:Int),(j:Int)]) (ri (us:= [.int .i64 k, .int .i64 (j:Int)]) rfl (Nat.le_refl _) (by simp))
      have bP:Below wr.heap.size wr (wr.alloc (.cells #[.int .i64 k, .int .i64 (j:Int)] 2)):=below_alloc1 _ _
      have HP:=Lib.hid hP
      have BP:=Lib.hid bP
      have HM:=Lib.hid hm
      have hsz:=ST.out.size
      have HO:Hid (fY zs k j= [dw [(k:Int),(j:Int)] 2]):=Lib.hid (by unfold fY ia;rw [if_neg hjk,if_pos (by omega)];rfl)
      clear hP bP hm
      go_wp2_with fail
      have xP:(wr.alloc (.cells #[.int .i64 k, .int .i64 (j:Int)] 2)).cell? ⟨w.heap.size + 1,1,none⟩=some (.slice ao' m c'):=(ST.out.box.alloc _).cell 1
      go_region_law (first | (refine sj (o:=⟨some 42,_,_,_,_,_⟩) BF rfl (.tmp 35) (.tmp 41) rfl (w.heap.size + 2) ao' m c' us rfl (ST.out.row.own.below B3) (.slice a1 (2 * 2) c1) w2.heap.size 1 rfl ((fU rfl).cell 0) rfl (by have:=HM.out;omega) (by have:=B3.size;simp at *;omega) ?_;intro ao2 c2 w4 o4 g4 hat;have B4S:Below (w.heap.size + 2) wr w4:=(B3S.grown g4 (by have:=B3.size;omega) (fun g hg=>(ST.out.row.own.lt g hg).1));have x4:w4.cell? ⟨w.heap.size + 1,1,none⟩=some (.slice ao' m c'):=(ST.out.box.below B4S (by omega)).cell 1;have f4:w4.frozen? ⟨w.heap.size + 1,1,none⟩=false:=(ST.out.box.below B4S (by omega)).frozen 1) | (go_simp;go_at_call 37;refine (lj _ 2 2 2 [(k:Int),(j:Int)] _ HP.out (by omega) (by omega) (by omega) (by omega)).mono ?_;rintro e w2 ⟨a1,c1,rfl,o1,b1⟩;have B2:Below wr.heap.size wr w2:=dW b1 BP.out.drew;have B2S:=B2.mono hsz;have B3:Below wr.heap.size wr (w2.alloc (.cells #[.slice a1 (2 * 2) c1] 24)):=B2.alloc B2.size _;have B3S:=B3.mono hsz;have x2:w2.cell? ⟨w.heap.size + 1,1,none⟩=some (.slice ao' m c'):=(ST.out.box.below B2S (by omega)).cell 1;have x3:(w2.alloc (.cells #[.slice a1 (2 * 2) c1] 24)).cell? ⟨w.heap.size + 1,1,none⟩=some (.slice ao' m c'):=(ST.out.box.below B3S (by omega)).cell 1))
      all_goals
       have st2:=ST.out.push HM.out B2 (o1.mono (by simp [World.drew])) (below_alloc1 _ _) o4 g4 hat
       have hs4:=B4S.size
       generalize w4.setCell ⟨w.heap.size + 1,1,none⟩ (.slice ao2 (m + 1) c2)=wf at *
       clear B2 B2S B3 B3S B4S x0 x1 x2 x3 x4 xP f1 f4 o1 b1 o4 g4 hat ST HP BP
       go_wp2_with fail
       go_roundw
       case rel=>exact ⟨j + 1,m + 1,ao2,c2,_,by go_num,by omega,by omega,by rw [lv (by omega),←List.append_assoc,HO.out];exact st2⟩
       case measure=>simp [intOf];omega
    ·obtain rfl:j=N:=by omega
     go_wp2_with fail
     go_roundw
     case rel=>exact ⟨k + 1,m,ao',c',us,by go_num,by omega,ST.out⟩
     case measure=>simp [intOf];omega
  ·obtain rfl:k=N:=by omega
   have x0:=st.box.cell 0
   have x1:=st.box.cell 1
   have y0:=st.res.cell 0
   have y1:=st.res.cell 1
   have f0:=st.res.frozen 0
   have f1:=st.res.frozen 1
   simp at x0 x1 y0 y1
   have ST:=Lib.hid st
   clear st r0 r1
   go_wp2_with fail
   have st2:=ST.out.done
   generalize (wr.setCell ⟨w.heap.size,0,none⟩ (.int .i64 k)).setCell ⟨w.heap.size,1,none⟩ (.slice ao' m c')=wf at *
   have e0:=st2.1.cell 0
   have e1:=st2.1.cell 1
   simp at e0 e1
   refine bodyPost_ret (v:= .agg #[.int .i64 k, .slice ao' m c']) (by simp [results,Try.f19,go_sem,e0,e1]) rfl ⟨_,rfl,⟨ao',m,c',us, ?_, ?_⟩,st2.2.2⟩
   ·unfold bB;rw [HL.out,hN]
   ·unfold bB;rw [HL.out,hN];exact st2.2.1.mono (by omega) (Nat.le_refl _)
end Go.Proofs.Ytekbhbcgoadciaa
namespace Go.Proofs.Ytekbhbcgoadciaa
open Go.RowKit
theorem xn {zs:List Int} (h:cf zs=true):zs.length < 5∧∀j,j < zs.length→0≤aC zs j∧aC zs j≤32:=by
 unfold cf at h
 simp only [Bool.and_eq_true,List.all_eq_true,decide_eq_true_eq] at h
 refine ⟨h.2,fun j hj=> ?_⟩
 have h1:=h.1 (aC zs j) (by rw [cG hj];exact List.getElem_mem hj)
 unfold dK at h1
 rcases Bool.or_eq_true _ _ ▸ h1 with h2 | h2
 ·have:aC zs j=0:=by simpa using h2
  omega
 ·have:=eX.1 h2
  omega
def kK (zs:List Int):dy:=if cf zs=true then bB zs else (0, [])
def sN (zs:List Int):Int:=if cf zs=true then 0 else 1
set_option maxHeartbeats 400000 in
theorem ua (ao:Option Addr) (n c:Nat) (zs:List Int) (w:World) (h:cY w ao n zs):
  Calls Try.prog 8 #[.slice ao n c] w fun e w'=>∃v,e= .returned (.tuple #[v, .int .i64 (sN zs)])∧sf 2 24 w' w.heap.size w'.heap.size v (kK zs)∧Below w.heap.size w w':=by
 have hb:=below_alloc1 w (.cells #[.int .i64 0, .slice none 0 0] 32)
 have kb:gF (w.alloc (.cells #[.int .i64 0, .slice none 0 0] 32)) w.heap.size 32 #[.int .i64 0, .slice none 0 0]:=fU rfl
 have hi:=h.below hb
 cases hp:cf zs with
 | true=>
  obtain ⟨hd1,hd2⟩:=xn hp
  rw [h.1] at hd1 hd2
  have hR:kK zs=bB zs:=by unfold kK;rw [if_pos hp]
  have hC:sN zs=0:=by unfold sN;rw [if_pos hp]
  have HX:=Lib.hid hp
  rw [hR,hC]
  clear hp hR hC
  go_enter Try.func8,Try.ntmps8
  go_wp2_with fail
  refine (fK ao n c zs _ hi).mono ?_
  rintro e w1 ⟨rfl,b1⟩
  rw [HX.out]
  have k0:=kb.gA b1
  have B1:=dW b1 hb
  have hi1:=hi.below b1
  have HZ:=Lib.hid hb.size
  clear kb hb b1 hi h
  go_wp2_with fail
  refine (si ao n c zs _ hi1 hd2 hd1).mono ?_
  rintro e w2 ⟨v1,rfl,⟨a1,n1,c1,us,rfl,o1⟩,b1⟩
  have k1:=k0.gA b1
  have c0:w2.cell? ⟨w.heap.size,0,none⟩=some (.int .i64 0):=k1.cell 0
  have c1':w2.cell? ⟨w.heap.size,1,none⟩=some (.slice none 0 0):=k1.cell 1
  have f0:=k1.frozen 0
  have f1:=k1.frozen 1
  go_wp2
  have hlt:=k0.lt
  have k2:=(k1.pW 0 (.int .i64 (bB zs).1)).pW 1 (.slice a1 n1 c1)
  have z2:w2.heap.size=((w2.setCell ⟨w.heap.size,0,none⟩ (.int .i64 (bB zs).1)).setCell ⟨w.heap.size,1,none⟩ (.slice a1 n1 c1)).heap.size:=by simp [World.setCell]
  have o2:=o1.same (dD _) (w':=(w2.setCell ⟨w.heap.size,0,none⟩ (.int .i64 (bB zs).1)).setCell ⟨w.heap.size,1,none⟩ (.slice a1 n1 c1)) (fun g h1 _ _=>by rw [Below.heap_setCell _ _ _ _ (by simp at h1 ⊢;omega),Below.heap_setCell _ _ _ _ (by simp at h1 ⊢;omega)])
  have b2:=((dW b1 B1).setCell (p:=⟨w.heap.size,0,none⟩) (Nat.le_refl _) (.int .i64 (bB zs).1)).setCell (p:=⟨w.heap.size,1,none⟩) (Nat.le_refl _) (.slice a1 n1 c1)
  generalize (w2.setCell ⟨w.heap.size,0,none⟩ (.int .i64 (bB zs).1)).setCell ⟨w.heap.size,1,none⟩ (.slice a1 n1 c1)=w3 at *
  have e0:=k2.cell 0
  have e1:=k2.cell 1
  simp at e0 e1
  exact bodyPost_ret (v:= .tuple #[.agg #[.int .i64 (bB zs).1, .slice a1 n1 c1], .int .i64 0]) (by simp [results,Try.f8,go_sem,e0,e1]) rfl ⟨_,rfl,⟨_,_,_,us,rfl,o2.mono (by omega) (by omega)⟩,b2⟩
 | false=>
  have hR:kK zs=(0, []):=by unfold kK;rw [if_neg (by simp [hp])]
  have hC:sN zs=1:=by unfold sN;rw [if_neg (by simp [hp])]
  have HX:=Lib.hid hp
  rw [hR,hC]
  clear hp hR hC
  go_enter Try.func8,Try.ntmps8
  go_wp2_with fail
  refine (fK ao n c zs _ hi).mono ?_
  rintro e w1 ⟨rfl,b1⟩
  rw [HX.out]
  have k0:=kb.gA b1
  have B1:=dW b1 hb
  have c0:w1.cell? ⟨w.heap.size,0,none⟩=some (.int .i64 0):=k0.cell 0
  have c1':w1.cell? ⟨w.heap.size,1,none⟩=some (.slice none 0 0):=k0.cell 1
  have f0:=k0.frozen 0
  have f1:=k0.frozen 1
  clear kb hb b1 hi h
  go_wp2
  have k2:=(k0.pW 0 (.int .i64 0)).pW 1 (.slice none 0 0)
  have b2:=(B1.setCell (p:=⟨w.heap.size,0,none⟩) (Nat.le_refl _) (.int .i64 0)).setCell (p:=⟨w.heap.size,1,none⟩) (Nat.le_refl _) (.slice none 0 0)
  generalize (w1.setCell ⟨w.heap.size,0,none⟩ (.int .i64 0)).setCell ⟨w.heap.size,1,none⟩ (.slice none 0 0)=w3 at *
  have e0:=k2.cell 0
  have e1:=k2.cell 1
  simp at e0 e1
  exact bodyPost_ret (v:= .tuple #[.agg #[.int .i64 0, .slice none 0 0], .int .i64 1]) (by simp [results,Try.f8,go_sem,e0,e1]) rfl ⟨_,rfl,⟨_,_,_, [],rfl,iC.jL (Own.zx _ _ _) (by simp [bk])⟩,b2⟩
theorem nq {v:Value} {zs:List Int} (w:World) (h:B0 w v zs):
  Calls Try.prog 8 #[v] w fun e w'=>∃v,e= .returned (.tuple #[v, .int .i64 (sN zs)])∧sf 2 24 w' w.heap.size w'.heap.size v (kK zs)∧Below w.heap.size w w':=by
 obtain ⟨ao,n,c,rfl,hi⟩:=h
 exact ua ao n c zs w hi
end Go.Proofs.Ytekbhbcgoadciaa
namespace Go.Proofs.Ytekbhbcgoadciaa
open Go.RowKit
theorem ij (less:List Int) (n c:Nat) (b:Bool) (hn:less.length=n) (hd:Down less) (hc:c < less.length):
  FC Try.prog 72 [(1001,⟨false,2,1, .bG (aJ less)⟩)] [.s (.agg [.any, .sl 1001 0 n, .val (.bool b)]),vv (I6 c)] [] (vv (I6 (root less c))) []:=by
 subst hn
 refine bc (nt:=18) Try.func72 rfl rfl (by simp) fun w0 ω0=> ?_
 (refine ah ?_;refine ab ?_;apply aa rfl;(exact cS rfl rfl rfl rfl);apply aa rfl;(exact ag rfl rfl);refine aj ?_;refine ai ?_;refine ah ?_;refine aB ?_)
 refine bl (fun k:Nat=>St.of [(1,vv (I6 k)),(2,o1 (.ptr 2 0))] [(1001,⟨false,2,1, .bG (aJ less)⟩),(2,⟨true,72,3, .flat [.any, .sl 1001 0 less.length, .val (.bool b)]⟩)]) (fun k=>k < less.length∧root less k=root less c) (fun k=>k) c ⟨hc,rfl⟩ (Wk.of ⟨rfl,rfl,trivial⟩ ⟨rfl,rfl,trivial⟩ trivial) ?_
 rintro k ⟨hk,hr⟩
 (refine ah ?_;refine ah ?_;refine ab ?_;apply aa rfl;(exact aE (d:=1) rfl rfl rfl (by as_aux_lemma=>kernel_rfl));apply aa rfl;(exact aQ rfl (by as_aux_lemma=>kernel_rfl) rfl rfl rfl rfl);apply aa rfl;(exact ae rfl rfl);apply aa rfl;(exact aU rfl rfl rfl rfl rfl (by as_aux_lemma=>kernel_rfl) (by first | rfl | exact (Int.toNat_of_nonneg (by omega)).symm) (by first | assumption | omega | (simp;omega)) (by first | exact Nat.le_refl _ | exact Nat.le_of_eq (an _).symm | exact Nat.le_of_eq (aw _).symm | (refine Nat.le_trans ?_ (Nat.le_of_eq (an _).symm);(first | omega | (simp;done) | (simp;omega))) | (refine Nat.le_trans ?_ (Nat.le_of_eq (aw _).symm);(first | omega | (simp;done) | (simp;omega)))));apply aa rfl;(exact a7 rfl (by as_aux_lemma=>kernel_rfl) rfl rfl rfl (by first | assumption | exact al (by assumption) | exact ar (by assumption) | exact al (by omega) | exact ar (by omega) | rfl));apply aa rfl;(exact ae rfl rfl);apply aa rfl;(exact aD rfl rfl rfl rfl);refine aj ?_;refine ai ?_)
 have hk2:=hd k hk
 refine au rfl (fun h=> ?_) (fun h=> ?_)
 ·have hne:aC less k≠k:=by simpa using h
  have hz:aC less k=(((aC less k).toNat:Nat):Int):=(Int.toNat_of_nonneg hk2.1).symm
  (refine aI ?_;refine ai ?_;refine aB ?_;refine ab ?_;apply aa rfl;(exact aE (d:=1) rfl rfl rfl (by as_aux_lemma=>kernel_rfl));apply aa rfl;(exact aQ rfl (by as_aux_lemma=>kernel_rfl) rfl rfl rfl rfl);apply aa rfl;(exact ae rfl rfl);apply aa rfl;(exact aU rfl rfl rfl rfl rfl (by as_aux_lemma=>kernel_rfl) (by first | rfl | exact (Int.toNat_of_nonneg (by omega)).symm) (by first | assumption | omega | (simp;omega)) (by first | exact Nat.le_refl _ | exact Nat.le_of_eq (an _).symm | exact Nat.le_of_eq (aw _).symm | (refine Nat.le_trans ?_ (Nat.le_of_eq (an _).symm);(first | omega | (simp;done) | (simp;omega))) | (refine Nat.le_trans ?_ (Nat.le_of_eq (aw _).symm);(first | omega | (simp;done) | (simp;omega)))));apply aa rfl;(exact a7 rfl (by as_aux_lemma=>kernel_rfl) rfl rfl rfl (by first | assumption | exact al (by assumption) | exact ar (by assumption) | exact al (by omega) | exact ar (by omega) | rfl));apply aa rfl;(exact ag rfl rfl);refine aj ?_;refine aK ?_)
  exact aX (aC less k).toNat ⟨by omega,(eM hd hk hne).symm.trans hr⟩ (by omega) (Wk.of ⟨congrArg (fun z=>some (vv (I6 z))) hz,rfl,trivial⟩ ⟨rfl,rfl,trivial⟩ trivial)
 ·have he:aC less k=k:=by simpa using h
  have e:k=root less c:=by rw [←hr,cD he]
  (refine a5 ?_;refine ax ?_;refine ax ?_;refine aM ?_;refine ai ?_;refine ah ?_;refine ab ?_;apply aa rfl;(exact ae rfl rfl);apply aa rfl;(exact ag rfl rfl);refine aj ?_;refine ai ?_;refine aW ?_)
  exact bd (.inl rfl) rfl (.tmp (congrArg (fun z:Nat=>some (vv (I6 z))) e)) trivial trivial
abbrev uF (m n:Nat) (b:Bool):AV:= .s (.agg [.sl 1000 0 m, .sl 1001 0 n, .val (.bool b)])
theorem gx (im:List (List Int)) (less:List Int) (m n c g:Nat) (b:Bool) (hm:im.length=m) (hn:less.length=n) (hd:Down less) (hc:c < im.length) (hg:g < (bu im c).length) (he:bD im c g < less.length):
  FC Try.prog 49 [(1000,xY im),(1001,pG less)] [uF m n b,vv (I6 c),vv (I6 g)] [] (vv (I6 (image im less c g))) []:=by
 subst hm hn
 refine bc (nt:=21) Try.func49 rfl rfl (by simp) fun w0 ω0=> ?_
 (refine ah ?_;refine ab ?_;apply aa rfl;(exact cS rfl rfl rfl rfl);apply aa rfl;(exact ag rfl rfl);refine aj ?_;refine ai ?_;refine ah ?_;refine ab ?_;apply aa rfl;(exact aE (d:=0) rfl rfl rfl (by as_aux_lemma=>kernel_rfl));apply aa rfl;(exact aQ rfl (by as_aux_lemma=>kernel_rfl) rfl rfl rfl rfl);apply aa rfl;(exact ae rfl rfl);apply aa rfl;(exact aU rfl rfl rfl rfl rfl (by as_aux_lemma=>kernel_rfl) (by first | rfl | exact (Int.toNat_of_nonneg (by omega)).symm) (by first | assumption | omega | (simp;omega)) (by first | exact Nat.le_refl _ | exact Nat.le_of_eq (an _).symm | exact Nat.le_of_eq (aw _).symm | (refine Nat.le_trans ?_ (Nat.le_of_eq (an _).symm);(first | omega | (simp;done) | (simp;omega))) | (refine Nat.le_trans ?_ (Nat.le_of_eq (aw _).symm);(first | omega | (simp;done) | (simp;omega)))));apply aa rfl;(exact bo rfl (by as_aux_lemma=>kernel_rfl) rfl rfl rfl (by first | assumption | exact al (by assumption) | exact ar (by assumption) | exact al (by omega) | exact ar (by omega) | rfl) (by first | exact an _ | assumption | rfl));apply aa rfl;(exact ae rfl rfl);apply aa rfl;(exact aS rfl rfl rfl rfl rfl (by as_aux_lemma=>kernel_rfl) (by first | assumption | exact al (by assumption) | exact ar (by assumption) | exact al (by omega) | exact ar (by omega) | rfl) (by first | rfl | exact (Int.toNat_of_nonneg (by omega)).symm) (by first | assumption | omega | (simp;omega)) (by first | exact Nat.le_refl _ | exact Nat.le_of_eq (an _).symm | exact Nat.le_of_eq (aw _).symm | (refine Nat.le_trans ?_ (Nat.le_of_eq (an _).symm);(first | omega | (simp;done) | (simp;omega))) | (refine Nat.le_trans ?_ (Nat.le_of_eq (aw _).symm);(first | omega | (simp;done) | (simp;omega)))));apply aa rfl;(exact aN rfl (by as_aux_lemma=>kernel_rfl) rfl rfl rfl (by first | assumption | exact al (by assumption) | exact ar (by assumption) | exact al (by omega) | exact ar (by omega) | rfl) (by first | assumption | exact al (by assumption) | exact ar (by assumption) | exact al (by omega) | exact ar (by omega) | rfl));apply aa rfl;(exact ag rfl rfl);refine aj ?_;refine ai ?_;refine ah ?_;refine ah ?_;refine ab ?_;apply aa rfl;(exact ae rfl rfl);apply aa rfl;(exact aD rfl rfl rfl rfl);refine aj ?_;refine ai ?_)
 refine bF rfl (fun h=> ?_) (fun h=> ?_)
 ·have e:image im less c g= -1:=if_pos h
  (refine ah ?_;refine ab ?_;apply aa rfl;(exact ag rfl rfl);refine aj ?_;refine ai ?_;refine aW ?_;refine aT ?_)
  exact bd (.inl rfl) rfl (.tmp (congrArg (fun z=>some (vv (I6 z))) e.symm)) trivial trivial
 ·have h:¬bD im c g < 0:=h
  have e:image im less c g=root less (bD im c g).toNat:=if_neg h
  (refine aI ?_;refine ai ?_;refine ah ?_;refine ab ?_;apply aa rfl;(exact a3 rfl rfl rfl rfl rfl rfl (by as_aux_lemma=>kernel_rfl));apply aa rfl;(exact ae rfl rfl);apply aa rfl;(exact aq (ij less _ (bD im c g).toNat b rfl hd (by omega)) (by as_aux_lemma=>kernel_rfl) rfl rfl ⟨⟨.inr ⟨rfl,rfl⟩, .inl rfl, .inl rfl,trivial⟩,Bd (by omega),trivial⟩ ⟨⟨_,rfl, .inl rfl⟩,trivial⟩ rfl rfl);apply aa rfl;(exact ag rfl rfl);refine aj ?_;refine ai ?_;refine aW ?_)
  exact bd (.inl rfl) rfl (.tmp (congrArg (fun z=>some (vv (I6 z))) e.symm)) trivial trivial
end Go.Proofs.Ytekbhbcgoadciaa
namespace Go.Proofs.Ytekbhbcgoadciaa
open Go.RowKit
theorem nY (im:List (List Int)) (less:List Int) (m n g:Nat) (b:Bool) (hm:im.length=m) (hn:less.length=n) (h:less.length=2000):
  FC Try.prog 69 [(1000,cz im),(1001,bw less)] [uF m n b,vv (I6 g)] [(1000,cz im),(1001,bw less)] (.tup [.agg [.sl 1000 0 m, .sl 1001 0 n, .val (.bool true)], .one (.val (I6 0))]) []:=by
 subst hm hn
 refine bc (nt:=39) Try.func69 rfl rfl (by simp) fun w0 ω0=> ?_
 (refine ah ?_;refine ab ?_;apply aa rfl;(exact cS rfl rfl rfl rfl);apply aa rfl;(exact b7 [.slice none 0 0, .slice none 0 0, .bool false] rfl (by as_aux_lemma=>kernel_rfl));apply aa rfl;(exact ag rfl rfl);refine aj ?_;refine ai ?_;refine ah ?_;refine ab ?_;apply aa rfl;(exact aE (d:=1) rfl rfl rfl (by as_aux_lemma=>kernel_rfl));apply aa rfl;(exact aQ rfl (by as_aux_lemma=>kernel_rfl) rfl rfl rfl rfl);apply aa rfl;(exact a8 rfl rfl rfl (by as_aux_lemma=>kernel_rfl));apply aa rfl;(exact ag rfl rfl);refine aj ?_;refine ai ?_;refine ah ?_;refine ah ?_;refine ab ?_;apply aa rfl;(exact ae rfl rfl);apply aa rfl;(exact aD rfl rfl rfl rfl);refine aj ?_;refine ai ?_)
 refine au rfl (fun e=> ?_) (fun e=> ?_)
 ·(refine ah ?_;refine ab ?_;apply aa rfl;(exact aE (d:=2) rfl rfl rfl (by as_aux_lemma=>kernel_rfl));apply aa rfl;(exact eK rfl rfl rfl rfl rfl rfl (by as_aux_lemma=>kernel_rfl) rfl);refine aj ?_;refine ai ?_;refine ah ?_;refine ab ?_;apply aa rfl;(exact a3 rfl rfl rfl rfl rfl rfl (by as_aux_lemma=>kernel_rfl));apply aa rfl;(exact a6 rfl rfl rfl rfl rfl rfl rfl rfl (by as_aux_lemma=>kernel_rfl) rfl);apply aa rfl;(exact ag rfl rfl);refine aj ?_;refine ai ?_;refine aW ?_;refine aT ?_)
  exact cH (.inl rfl) rfl (.cell rfl rfl rfl rfl rfl (by kernel_rfl)) (.tmp rfl) ⟨rfl,rfl,trivial⟩ trivial
 ·rw [h] at e;cases e
theorem lT (im:List (List Int)) (less:List Int) (m n g:Nat) (b:Bool) (hm:im.length=m) (hn:less.length=n) (h:less.length < 2000) (hg:g≤1000) (hi:im.length≤10000):
  FC Try.prog 69 [(1000,cz im),(1001,bw less)] [uF m n b,vv (I6 g)] [(1000,cz (im ++ [List.replicate g (-1)])),(1001,bw (less ++ [(n:Int)]))] (.tup [.agg [.sl 1000 0 (m + 1), .sl 1001 0 (n + 1), .val (.bool b)], .one (.val (I6 n))]) []:=by
 subst hm hn
 refine bc (nt:=39) Try.func69 rfl rfl (by simp) fun w0 ω0=> ?_
 (refine ah ?_;refine ab ?_;apply aa rfl;(exact cS rfl rfl rfl rfl);apply aa rfl;(exact b7 [.slice none 0 0, .slice none 0 0, .bool false] rfl (by as_aux_lemma=>kernel_rfl));apply aa rfl;(exact ag rfl rfl);refine aj ?_;refine ai ?_;refine ah ?_;refine ab ?_;apply aa rfl;(exact aE (d:=1) rfl rfl rfl (by as_aux_lemma=>kernel_rfl));apply aa rfl;(exact aQ rfl (by as_aux_lemma=>kernel_rfl) rfl rfl rfl rfl);apply aa rfl;(exact a8 rfl rfl rfl (by as_aux_lemma=>kernel_rfl));apply aa rfl;(exact ag rfl rfl);refine aj ?_;refine ai ?_;refine ah ?_;refine ah ?_;refine ab ?_;apply aa rfl;(exact ae rfl rfl);apply aa rfl;(exact aD rfl rfl rfl rfl);refine aj ?_;refine ai ?_)
 refine au rfl (fun e=> ?_) (fun e=> ?_)
 ·exfalso;simp at e;omega
 ·(refine aI ?_;refine ai ?_;refine ah ?_;refine ab ?_;apply aa rfl;(exact du (E:=2) (k:=1) rfl (by as_aux_lemma=>kernel_rfl));apply aa rfl;(exact ag rfl rfl);refine aj ?_;refine ai ?_;refine ah ?_;refine ah ?_;refine ab ?_;apply aa rfl;(exact ag rfl rfl);refine aj ?_;refine ai ?_;refine aB ?_)
  refine bl (fun k:Nat=>St.of [(1,vv (I6 g)),(2,o1 (.ptr 2 0)),(4,o1 (.ptr 4 0)),(6,vv (I6 less.length)),(7,o1 (.sl 16 0 k)),(8,vv (I6 k))] [(1000,cz im),(1001,bw less),(2,⟨true,72,3, .flat [.sl 1000 0 im.length, .sl 1001 0 less.length, .val (.bool b)]⟩),(4,⟨true,72,3, .flat [.val (.slice none 0 0), .val (.slice none 0 0), .val (.bool false)]⟩),(16,⟨true,2,1, .bG (aJ (List.replicate k (-1)))⟩)]) (fun k=>k≤g) (fun k=>g - k) 0 (Nat.zero_le _) (Wk.of ⟨rfl,rfl,rfl,rfl,rfl,rfl,trivial⟩ ⟨rfl,rfl,rfl,rfl,rfl,trivial⟩ trivial) ?_
  intro k hk
  (refine ah ?_;refine ah ?_;refine ab ?_;apply aa rfl;(exact ae rfl rfl);apply aa rfl;(exact ae rfl rfl);apply aa rfl;(exact aD rfl rfl rfl rfl);refine aj ?_;refine ai ?_)
  refine bF rfl (fun h=> ?_) (fun h=> ?_)
  ·(refine aI ?_;refine ai ?_;refine ah ?_;refine aB ?_;refine ab ?_;apply aa rfl;(exact ae rfl rfl);apply aa rfl;(exact bM (E:=2) rfl (by as_aux_lemma=>kernel_rfl) rfl);apply aa rfl;(exact bg rfl (by as_aux_lemma=>kernel_rfl) rfl rfl rfl (by first | rfl | assumption | (simp;done)) rfl rfl (by omega));apply aa rfl;(exact ag rfl rfl);refine aj ?_;refine aK ?_;refine ai ?_;refine ab ?_;apply aa rfl;(exact ae rfl rfl);apply aa rfl;(exact aR rfl rfl rfl (by first | exact IntWalk.i64_in _ (by omega) | rfl));apply aa rfl;(exact ag rfl rfl);refine aj ?_)
   exact aX (k + 1) (by omega) (by omega) (Wk.of ⟨rfl,rfl,rfl,rfl,rfl,rfl,trivial⟩ ⟨rfl,rfl,rfl,rfl,by rw [List.replicate_succ'];rfl,trivial⟩ trivial)
  ·obtain rfl:k=g:=by omega
   (refine a5 ?_;refine ax ?_;refine ax ?_;refine aM ?_;refine ai ?_;refine ah ?_;refine ab ?_;apply aa rfl;(exact aE (d:=0) rfl rfl rfl (by as_aux_lemma=>kernel_rfl));apply aa rfl;(exact aQ rfl (by as_aux_lemma=>kernel_rfl) rfl rfl rfl rfl);apply aa rfl;(exact ae rfl rfl);apply aa rfl;(exact lX (E:=24) rfl (by as_aux_lemma=>kernel_rfl) rfl rfl rfl);apply aa rfl;(exact kz rfl (by as_aux_lemma=>kernel_rfl) rfl rfl (by first | rfl | assumption | (simp;done)) rfl rfl rfl (by first | rfl | assumption | (simp;done)) rfl (by omega));apply aa rfl;(exact aE (d:=0) rfl rfl rfl (by as_aux_lemma=>kernel_rfl));apply aa rfl;(exact eK rfl rfl rfl rfl rfl rfl (by as_aux_lemma=>kernel_rfl) rfl);refine aj ?_;refine ai ?_;refine ah ?_;refine ab ?_;apply aa rfl;(exact aE (d:=1) rfl rfl rfl (by as_aux_lemma=>kernel_rfl));apply aa rfl;(exact aQ rfl (by as_aux_lemma=>kernel_rfl) rfl rfl rfl rfl);apply aa rfl;(exact ae rfl rfl);apply aa rfl;(exact bM (E:=2) rfl (by as_aux_lemma=>kernel_rfl) rfl);apply aa rfl;(exact bg rfl (by as_aux_lemma=>kernel_rfl) rfl rfl rfl (by first | rfl | assumption | (simp;done)) rfl rfl (by omega));apply aa rfl;(exact aE (d:=1) rfl rfl rfl (by as_aux_lemma=>kernel_rfl));apply aa rfl;(exact eK rfl rfl rfl rfl rfl rfl (by as_aux_lemma=>kernel_rfl) rfl);refine aj ?_;refine ai ?_;refine ah ?_;refine ab ?_;apply aa rfl;(exact a3 rfl rfl rfl rfl rfl rfl (by as_aux_lemma=>kernel_rfl));apply aa rfl;(exact ae rfl rfl);apply aa rfl;(exact a6 rfl rfl rfl rfl rfl rfl rfl rfl (by as_aux_lemma=>kernel_rfl) rfl);apply aa rfl;(exact ag rfl rfl);refine aj ?_;refine ai ?_;refine aW ?_)
   exact cH (.inl rfl) rfl (.cell rfl rfl rfl rfl rfl (by kernel_rfl)) (.tmp rfl) ⟨rfl,rfl,trivial⟩ trivial
end Go.Proofs.Ytekbhbcgoadciaa
namespace Go.Proofs.Ytekbhbcgoadciaa
open Go.RowKit
theorem sA {α:Type} (l:List α) (x:α):l.length + 1=(l ++ [x]).length:=by simp
theorem iF (lo hi:Nat) (im:List (List Int)) (h:List (Int×Int)):∀g,bm lo hi (im,h) g=((bm lo hi (im, []) g).1,h ++ (bm lo hi (im, []) g).2)
 | 0=>by simp [bm]
 | g + 1=>by
  simp only [bm]
  rw [iF lo hi im h g]
  unfold stepG
  dsimp only
  split
  ·rfl
  ·split
   ·simp
   ·rfl
set_option maxRecDepth 100000 in
set_option maxHeartbeats 1000000 in
theorem kh (ng n:Nat) (im:List (List Int)) (less:List Int) (c d:Nat) (b:Bool) (hnn:less.length=n) (hw:WF ng im less) (hc:c < less.length) (hd:d < less.length) (hn:less.length≤2000) (hng:ng≤1000):
  FC Try.prog 82 [(1000,cz im),(1001,bw less)] [uF n n b,vv (I6 c),vv (I6 d)] [(1000,cz (ident ng im less [((c:Int),(d:Int))]).1),(1001,bw (ident ng im less [((c:Int),(d:Int))]).2)] (.s (.agg [.sl 1000 0 n, .sl 1001 0 n, .val (.bool b)])) []:=by
 refine bc (nt:=97) Try.func82 rfl rfl (by simp) fun w0 ω0=> ?_
 generalize hR:ident ng im less [((c:Int),(d:Int))]=R
 (refine ah ?_;refine ab ?_;apply aa rfl;(exact cS rfl rfl rfl rfl);apply aa rfl;(exact b7 [.slice none 0 0, .slice none 0 0, .bool false] rfl (by as_aux_lemma=>kernel_rfl));refine aj ?_;refine ai ?_;refine ah ?_;refine ab ?_;apply aa rfl;(exact ae rfl rfl);apply aa rfl;(exact bM (E:=2) rfl (by as_aux_lemma=>kernel_rfl) rfl);apply aa rfl;(exact ae rfl rfl);apply aa rfl;(exact bM (E:=2) rfl (by as_aux_lemma=>kernel_rfl) rfl);apply aa rfl;(exact ag rfl rfl);apply aa rfl;(exact ag rfl rfl);refine aj ?_;refine ai ?_;refine ah ?_;refine ah ?_;refine ab ?_;apply aa rfl;(exact ag rfl rfl);refine aj ?_;refine ai ?_;refine aB ?_)
 have hB:fuel ng less [((c:Int),(d:Int))]≤2100000:=by
  unfold fuel
  have h1:alive less≤less.length:=by unfold alive;exact Nat.le_trans (List.length_filter_le _ _) (by simp)
  have h2:alive less * (ng + 1)≤2000 * 1001:=Nat.mul_le_mul (by omega) (by omega)
  simp;omega
 have hq0:kT less.length [((c:Int),(d:Int))]:=fun p hp=>by simp at hp;subst hp;exact ⟨by omega,by omega⟩
 have hnm:im.length=n:=hw.len.trans hnn
 refine bl (fun j:List (List Int)×List Int×List (Int×Int)×Nat=>St.of [(3,o1 (.ptr 3 0)),(6,o1 (.ptr 6 0)),(7,o1 (.sl 16 0 j.2.2.1.length)),(8,o1 (.sl 18 0 j.2.2.1.length)),(9,vv (I6 j.2.2.2))]
   [(1000,cz j.1),(1001,bw j.2.1),(3,⟨true,72,3, .flat [.sl 1000 0 n, .sl 1001 0 n, .val (.bool b)]⟩),(6,⟨true,72,3, .flat [.val (.slice none 0 0), .val (.slice none 0 0), .val (.bool false)]⟩),(16,⟨true,2,1, .bG (aJ (j.2.2.1.map (·.1)))⟩),(18,⟨true,2,1, .bG (aJ (j.2.2.1.map (·.2)))⟩)])
  (fun j=>WF ng j.1 j.2.1∧j.2.1.length=n∧j.2.2.2≤j.2.2.1.length∧kT n (j.2.2.1.drop j.2.2.2)∧j.2.2.2 + fuel ng j.2.1 (j.2.2.1.drop j.2.2.2)≤2100000∧ident ng j.1 j.2.1 (j.2.2.1.drop j.2.2.2)=R)
  (fun j=>fuel ng j.2.1 (j.2.2.1.drop j.2.2.2)) (im,less, [((c:Int),(d:Int))],0) ⟨hw,hnn,Nat.zero_le _,hnn ▸ hq0,by simpa using hB,hR⟩ (Wk.of ⟨rfl,rfl,rfl,rfl,rfl,trivial⟩ ⟨rfl,rfl,rfl,rfl,rfl,rfl,trivial⟩ trivial) ?_
 rintro ⟨im1,less1,h,i⟩ ⟨hw1,hn1,hi,hq,hb,hr⟩
 dsimp only at hw1 hn1 hi hq hb hr ⊢
 have hm1:=hw1.len
 (refine ah ?_;refine ah ?_;refine ab ?_;apply aa rfl;(exact ae rfl rfl);apply aa rfl;(exact ae rfl rfl);apply aa rfl;(exact a8 rfl rfl rfl (by as_aux_lemma=>kernel_rfl));apply aa rfl;(exact aD rfl rfl rfl rfl);refine aj ?_;refine ai ?_)
 refine bF rfl (fun hlt=> ?_) (fun hlt=> ?_)
 ·have hlt':i < h.length:=by omega
  obtain ⟨p,hp⟩:∃p,h[i]? =some p:=⟨h[i],List.getElem?_eq_getElem hlt'⟩
  obtain ⟨q,hqq⟩:∃q,h.drop (i + 1)=q:=⟨_,rfl⟩
  have hpq:h.drop i=p :: q:=by rw [List.drop_eq_getElem_cons hlt',hqq];congr 1;rw [List.getElem?_eq_getElem hlt'] at hp;exact Option.some.inj hp
  rw [hpq] at hq hb hr
  have hpp:=hq p (by simp)
  have hqn:kT n q:=fun x hx=>hq x (by simp [hx])
  have g1:(aJ (h.map (·.1)))[i]? =some (I6 p.1):=by simp [aJ,hp]
  have g2:(aJ (h.map (·.2)))[i]? =some (I6 p.2):=by simp [aJ,hp]
  (refine aI ?_;refine ai ?_;refine ah ?_;refine aB ?_;refine ah ?_)
  apply dG 12 [] [[], [], [], [1,2], [1,2,3], [0,1,2,3,4], [], [], [], [7,8], [7,8,9], [0,1,2,3,4,5,6,7,8,9,10], [0,1,2,3,4,5,6,7,8,9,10,11], [0,1,2,3,4,5,6,7,8,9,10,11,12]] [25,26,27,28,29,30,31,32,33,34,35,36] [] (by kernel_rfl) (by kernel_rfl)
  ·(apply aF rfl;(intro S1 hS;exact a3 rfl (hS.op rfl) (hS.ch _ _ rfl) rfl rfl rfl (by as_aux_lemma=>kernel_rfl));apply aF rfl;(intro S1 hS;exact ae rfl (hS.op rfl));apply aF rfl;(intro S1 hS;exact ae rfl (hS.op rfl));apply aF rfl;(intro S1 hS;exact aU rfl (hS.op rfl) (hS.op rfl) (hS.ch _ _ rfl) rfl (by as_aux_lemma=>kernel_rfl) (by first | rfl | exact (Int.toNat_of_nonneg (by omega)).symm) (by first | assumption | omega | (simp;omega)) (by first | exact Nat.le_refl _ | exact Nat.le_of_eq (an _).symm | exact Nat.le_of_eq (aw _).symm | (refine Nat.le_trans ?_ (Nat.le_of_eq (an _).symm);(first | omega | (simp;done) | (simp;omega))) | (refine Nat.le_trans ?_ (Nat.le_of_eq (aw _).symm);(first | omega | (simp;done) | (simp;omega)))));apply aF rfl;(intro S1 hS;exact a7 rfl (by as_aux_lemma=>kernel_rfl) (hS.op rfl) (hS.ch _ _ rfl) rfl (by first | assumption | exact al (by assumption) | exact ar (by assumption) | exact al (by omega) | exact ar (by omega) | rfl));(apply aF rfl;(focus (intro S1 hS;refine ak 72 ?_;first | exact aq (ij less1 n p.1.toNat b hn1 hw1.down (by omega)) (by as_aux_lemma=>kernel_rfl) rfl (dx hS rfl) ⟨⟨.inr ⟨rfl,rfl⟩, .inl rfl, .inl rfl,trivial⟩,Bd (by omega),trivial⟩ (cJ hS ⟨⟨_,rfl, .inr rfl⟩,trivial⟩) rfl rfl | exact aq (ij less1 n p.2.toNat b hn1 hw1.down (by omega)) (by as_aux_lemma=>kernel_rfl) rfl (dx hS rfl) ⟨⟨.inr ⟨rfl,rfl⟩, .inl rfl, .inl rfl,trivial⟩,Bd (by omega),trivial⟩ (cJ hS ⟨⟨_,rfl, .inr rfl⟩,trivial⟩) rfl rfl)));apply aF rfl;(intro S1 hS;exact a3 rfl (hS.op rfl) (hS.ch _ _ rfl) rfl rfl rfl (by as_aux_lemma=>kernel_rfl));apply aF rfl;(intro S1 hS;exact ae rfl (hS.op rfl));apply aF rfl;(intro S1 hS;exact ae rfl (hS.op rfl));apply aF rfl;(intro S1 hS;exact aU rfl (hS.op rfl) (hS.op rfl) (hS.ch _ _ rfl) rfl (by as_aux_lemma=>kernel_rfl) (by first | rfl | exact (Int.toNat_of_nonneg (by omega)).symm) (by first | assumption | omega | (simp;omega)) (by first | exact Nat.le_refl _ | exact Nat.le_of_eq (an _).symm | exact Nat.le_of_eq (aw _).symm | (refine Nat.le_trans ?_ (Nat.le_of_eq (an _).symm);(first | omega | (simp;done) | (simp;omega))) | (refine Nat.le_trans ?_ (Nat.le_of_eq (aw _).symm);(first | omega | (simp;done) | (simp;omega)))));apply aF rfl;(intro S1 hS;exact a7 rfl (by as_aux_lemma=>kernel_rfl) (hS.op rfl) (hS.ch _ _ rfl) rfl (by first | assumption | exact al (by assumption) | exact ar (by assumption) | exact al (by omega) | exact ar (by omega) | rfl));(apply aF rfl;(focus (intro S1 hS;refine ak 72 ?_;first | exact aq (ij less1 n p.1.toNat b hn1 hw1.down (by omega)) (by as_aux_lemma=>kernel_rfl) rfl (dx hS rfl) ⟨⟨.inr ⟨rfl,rfl⟩, .inl rfl, .inl rfl,trivial⟩,Bd (by omega),trivial⟩ (cJ hS ⟨⟨_,rfl, .inr rfl⟩,trivial⟩) rfl rfl | exact aq (ij less1 n p.2.toNat b hn1 hw1.down (by omega)) (by as_aux_lemma=>kernel_rfl) rfl (dx hS rfl) ⟨⟨.inr ⟨rfl,rfl⟩, .inl rfl, .inl rfl,trivial⟩,Bd (by omega),trivial⟩ (cJ hS ⟨⟨_,rfl, .inr rfl⟩,trivial⟩) rfl rfl)));exact ey.nil)
  ·rfl
  ((apply aA 12 rfl (by as_aux_lemma=>kernel_rfl) rfl rfl;(exact ag rfl rfl));(apply aA 13 rfl (by as_aux_lemma=>kernel_rfl) rfl rfl;(exact ag rfl rfl));(refine aY (by as_aux_lemma=>kernel_rfl) ?_;skip))
  have hr1:=cw hw1.down (c:=p.1.toNat) (by omega)
  have hr2:=cw hw1.down (c:=p.2.toNat) (by omega)
  (refine ai ?_;refine ah ?_;refine ah ?_;refine ab ?_;apply aa rfl;(exact ae rfl rfl);apply aa rfl;(exact ae rfl rfl);apply aa rfl;(exact aD rfl rfl rfl rfl);refine aj ?_;refine ai ?_)
  refine au rfl (fun he=> ?_) (fun he=> ?_)
  ·have he':root less1 p.1.toNat=root less1 p.2.toNat:=by have:=he;simp at this;omega
   have hfu:fuel ng less1 (p :: q)=fuel ng less1 q + 1:=by unfold fuel;simp;omega
   (refine a5 ?_;refine ax ?_;refine aM ?_;refine ai ?_;refine ab ?_;apply aa rfl;(exact ae rfl rfl);apply aa rfl;(exact aR rfl rfl rfl (by first | exact IntWalk.i64_in _ (by omega) | rfl));apply aa rfl;(exact ag rfl rfl);refine aj ?_)
   exact aX (im1,less1,h,i + 1) ⟨hw1,hn1,hlt',by rw [hqq];exact hqn,by show i + 1 + fuel ng less1 (h.drop (i + 1))≤2100000;rw [hqq];omega,by rw [hqq,←oX hw1 (hn1 ▸ hq) he'];exact hr⟩ (by show fuel ng less1 (h.drop (i + 1)) < fuel ng less1 (h.drop i);rw [hqq,hpq];omega) (Wk.of ⟨rfl,rfl,rfl,rfl,rfl,trivial⟩ ⟨rfl,rfl,rfl,rfl,rfl,rfl,trivial⟩ trivial)
  ·have he':root less1 p.1.toNat≠root less1 p.2.toNat:=by have:=he;simp at this;omega
   obtain ⟨hm1,hm2,hm3,hm4⟩:=iO hw1 (hn1 ▸ hq) he'
   generalize hcc:root less1 p.1.toNat=cc at *
   generalize hdd:root less1 p.2.toNat=dd at *
   obtain ⟨lo,hlo⟩:∃lo,min cc dd=lo:=⟨_,rfl⟩
   obtain ⟨hi,hhi⟩:∃hi,max cc dd=hi:=⟨_,rfl⟩
   have hll:lo < hi∧hi < n:=by omega
   unfold fh at hm1 hm2 hm3 hm4
   rw [hlo,hhi] at hm1 hm2 hm3 hm4
   (refine aI ?_;refine ai ?_;refine ah ?_;refine ah ?_;refine ab ?_;apply aa rfl;(exact ae rfl rfl);apply aa rfl;(exact ae rfl rfl);apply aa rfl;(exact aD rfl rfl rfl rfl);refine aj ?_;refine ai ?_)
   refine wP (St.of [(3,o1 (.ptr 3 0)),(6,o1 (.ptr 6 0)),(7,o1 (.sl 16 0 h.length)),(8,o1 (.sl 18 0 h.length)),(9,vv (I6 i)),(10,vv (I6 lo)),(11,vv (I6 hi))] [(1000,cz im1),(1001,bw less1),(3,⟨true,72,3, .flat [.sl 1000 0 n, .sl 1001 0 n, .val (.bool b)]⟩),(6,⟨true,72,3, .flat [.val (.slice none 0 0), .val (.slice none 0 0), .val (.bool false)]⟩),(16,⟨true,2,1, .bG (aJ (h.map (·.1)))⟩),(18,⟨true,2,1, .bG (aJ (h.map (·.2)))⟩)]) rfl (fun hg=> ?_) (fun hg=> ?_) ?_
   ·have hg:(cc:Int) > dd:=of_decide_eq_true hg
    obtain ⟨rfl,rfl⟩:lo=dd∧hi=cc:=by omega
    (refine ab ?_;apply aa rfl;(exact ae rfl rfl);apply aa rfl;(exact ae rfl rfl);apply aa rfl;(exact ag rfl rfl);apply aa rfl;(exact ag rfl rfl);refine aj ?_)
    exact aL (Wk.of ⟨rfl,rfl,rfl,rfl,rfl,rfl,rfl,trivial⟩ ⟨rfl,rfl,rfl,rfl,rfl,rfl,trivial⟩ trivial)
   ·have hg:¬(cc:Int) > dd:=of_decide_eq_false hg
    obtain ⟨rfl,rfl⟩:lo=cc∧hi=dd:=by omega
    (refine aI ?_)
    exact aL (Wk.of ⟨rfl,rfl,rfl,rfl,rfl,rfl,rfl,trivial⟩ ⟨rfl,rfl,rfl,rfl,rfl,rfl,trivial⟩ trivial)
   have hhl:hi < less1.length:=by omega
   (refine ai ?_;refine ah ?_;refine ab ?_;apply aa rfl;(exact aE (d:=1) rfl rfl rfl (by as_aux_lemma=>kernel_rfl));apply aa rfl;(exact aQ rfl (by as_aux_lemma=>kernel_rfl) rfl rfl rfl rfl);apply aa rfl;(exact ae rfl rfl);apply aa rfl;(exact ae rfl rfl);apply aa rfl;(exact aU rfl rfl rfl rfl rfl (by as_aux_lemma=>kernel_rfl) (by first | rfl | exact (Int.toNat_of_nonneg (by omega)).symm) (by first | assumption | omega | (simp;omega)) (by first | exact Nat.le_refl _ | exact Nat.le_of_eq (an _).symm | exact Nat.le_of_eq (aw _).symm | (refine Nat.le_trans ?_ (Nat.le_of_eq (an _).symm);(first | omega | (simp;done) | (simp;omega))) | (refine Nat.le_trans ?_ (Nat.le_of_eq (aw _).symm);(first | omega | (simp;done) | (simp;omega)))));apply aa rfl;(exact iM rfl rfl rfl rfl rfl (by first | assumption | omega | (simp;omega)) (by as_aux_lemma=>kernel_rfl));refine aj ?_;refine ai ?_;refine ah ?_;refine ab ?_;apply aa rfl;(exact ag rfl rfl);refine aj ?_;refine ai ?_;refine aB ?_)
   refine bl (fun g:Nat=>St.of [(3,o1 (.ptr 3 0)),(6,o1 (.ptr 6 0)),(7,o1 (.sl 16 0 (bm lo hi (im1,h) g).2.length)),(8,o1 (.sl 18 0 (bm lo hi (im1,h) g).2.length)),(9,vv (I6 i)),(10,vv (I6 lo)),(11,vv (I6 hi)),(12,vv (I6 g))] [(1000,cz (bm lo hi (im1,h) g).1),(1001,bw (less1.set hi (lo:Int))),(3,⟨true,72,3, .flat [.sl 1000 0 n, .sl 1001 0 n, .val (.bool b)]⟩),(6,⟨true,72,3, .flat [.val (.slice none 0 0), .val (.slice none 0 0), .val (.bool false)]⟩),(16,⟨true,2,1, .bG (aJ ((bm lo hi (im1,h) g).2.map (·.1)))⟩),(18,⟨true,2,1, .bG (aJ ((bm lo hi (im1,h) g).2.map (·.2)))⟩)]) (fun g=>g≤ng) (fun g=>ng - g) 0 (Nat.zero_le _) (Wk.of ⟨rfl,rfl,rfl,rfl,rfl,rfl,rfl,rfl,trivial⟩ ⟨rfl,rfl,rfl,rfl,rfl,rfl,trivial⟩ trivial) ?_
   intro g hg
   obtain ⟨M,N,hMN⟩:∃M N,bm lo hi (im1, []) g=(M,N):=⟨_,_,rfl⟩
   have hA:=iF lo hi im1 h g
   have hAq:=iF lo hi im1 q g
   obtain ⟨k1,k2,k3,k4⟩:=dO hw1 (lo:=lo) (hi:=hi) (q:= []) (by omega) (by omega) (fun x hx=>by simp at hx) g hg
   rw [hMN] at hA hAq k1 k2 k3 k4
   dsimp only at hA hAq k1 k2 k3 k4
   rw [hA]
   dsimp only
   have hMl:M.length=n:=k1.len.trans hn1
   have hrow:=k1.row hi (by omega)
   have hrowl:=k1.row lo (by omega)
   have hNl:(h ++ N).length≤2200000:=by
    have h1:i + (p :: q).length≤2100000:=by unfold fuel at hb;omega
    have h2:h.length=i + (p :: q).length:=by have:=congrArg List.length hpq;rw [List.length_drop] at this;omega
    rw [List.length_append];simp at k3;omega
   (refine ah ?_;refine ah ?_;refine ab ?_;apply aa rfl;(exact ae rfl rfl);apply aa rfl;(exact aE (d:=0) rfl rfl rfl (by as_aux_lemma=>kernel_rfl));apply aa rfl;(exact aQ rfl (by as_aux_lemma=>kernel_rfl) rfl rfl rfl rfl);apply aa rfl;(exact ae rfl rfl);apply aa rfl;(exact aU rfl rfl rfl rfl rfl (by as_aux_lemma=>kernel_rfl) (by first | rfl | exact (Int.toNat_of_nonneg (by omega)).symm) (by first | assumption | omega | (simp;omega)) (by first | exact Nat.le_refl _ | exact Nat.le_of_eq (an _).symm | exact Nat.le_of_eq (aw _).symm | (refine Nat.le_trans ?_ (Nat.le_of_eq (an _).symm);(first | omega | (simp;done) | (simp;omega))) | (refine Nat.le_trans ?_ (Nat.le_of_eq (aw _).symm);(first | omega | (simp;done) | (simp;omega)))));apply aa rfl;(exact bo rfl (by as_aux_lemma=>kernel_rfl) rfl rfl rfl (by first | assumption | exact al (by assumption) | exact ar (by assumption) | exact al (by omega) | exact ar (by omega) | rfl) (by first | exact an _ | assumption | rfl));apply aa rfl;(exact a8 rfl rfl rfl (by as_aux_lemma=>kernel_rfl));apply aa rfl;(exact aD rfl rfl rfl rfl);refine aj ?_;refine ai ?_)
   refine bF rfl (fun hgl=> ?_) (fun hgl=> ?_)
   ·have hgl:(g:Int) < ((bu M hi).length:Nat):=hgl
    have hg':g < ng:=by omega
    have e1:=k1.bD hi g (by omega) hg'
    have e2:=k1.bD lo g (by omega) hg'
    (refine aI ?_;refine ai ?_;refine ah ?_;refine aB ?_;refine ah ?_;refine ab ?_;apply aa rfl;(exact aE (d:=0) rfl rfl rfl (by as_aux_lemma=>kernel_rfl));apply aa rfl;(exact aQ rfl (by as_aux_lemma=>kernel_rfl) rfl rfl rfl rfl);apply aa rfl;(exact ae rfl rfl);apply aa rfl;(exact aU rfl rfl rfl rfl rfl (by as_aux_lemma=>kernel_rfl) (by first | rfl | exact (Int.toNat_of_nonneg (by omega)).symm) (by first | assumption | omega | (simp;omega)) (by first | exact Nat.le_refl _ | exact Nat.le_of_eq (an _).symm | exact Nat.le_of_eq (aw _).symm | (refine Nat.le_trans ?_ (Nat.le_of_eq (an _).symm);(first | omega | (simp;done) | (simp;omega))) | (refine Nat.le_trans ?_ (Nat.le_of_eq (aw _).symm);(first | omega | (simp;done) | (simp;omega)))));apply aa rfl;(exact bo rfl (by as_aux_lemma=>kernel_rfl) rfl rfl rfl (by first | assumption | exact al (by assumption) | exact ar (by assumption) | exact al (by omega) | exact ar (by omega) | rfl) (by first | exact an _ | assumption | rfl));apply aa rfl;(exact ae rfl rfl);apply aa rfl;(exact aS rfl rfl rfl rfl rfl (by as_aux_lemma=>kernel_rfl) (by first | assumption | exact al (by assumption) | exact ar (by assumption) | exact al (by omega) | exact ar (by omega) | rfl) (by first | rfl | exact (Int.toNat_of_nonneg (by omega)).symm) (by first | assumption | omega | (simp;omega)) (by first | exact Nat.le_refl _ | exact Nat.le_of_eq (an _).symm | exact Nat.le_of_eq (aw _).symm | (refine Nat.le_trans ?_ (Nat.le_of_eq (an _).symm);(first | omega | (simp;done) | (simp;omega))) | (refine Nat.le_trans ?_ (Nat.le_of_eq (aw _).symm);(first | omega | (simp;done) | (simp;omega)))));apply aa rfl;(exact aN rfl (by as_aux_lemma=>kernel_rfl) rfl rfl rfl (by first | assumption | exact al (by assumption) | exact ar (by assumption) | exact al (by omega) | exact ar (by omega) | rfl) (by first | assumption | exact al (by assumption) | exact ar (by assumption) | exact al (by omega) | exact ar (by omega) | rfl));apply aa rfl;(exact ag rfl rfl);refine aj ?_;refine ai ?_;refine ah ?_;refine ah ?_;refine ab ?_;apply aa rfl;(exact ae rfl rfl);apply aa rfl;(exact aD rfl rfl rfl rfl);refine aj ?_;refine ai ?_)
    refine bF rfl (fun he=> ?_) (fun he=> ?_)
    ·have he:bD M hi g < 0:=he
     have hstep:bm lo hi (im1,h) (g + 1)=(M,h ++ N):=by rw [bm,hA];exact if_pos he
     (refine a5 ?_;refine ax ?_;refine aM ?_;refine ai ?_;refine ab ?_;apply aa rfl;(exact ae rfl rfl);apply aa rfl;(exact aR rfl rfl rfl (by first | exact IntWalk.i64_in _ (by omega) | rfl));apply aa rfl;(exact ag rfl rfl);refine aj ?_)
     exact aX (g + 1) (by omega) (by omega) (Wk.of (by rw [hstep];exact ⟨rfl,rfl,rfl,rfl,rfl,rfl,rfl,rfl,trivial⟩) (by rw [hstep];exact ⟨rfl,rfl,rfl,rfl,rfl,rfl,trivial⟩) trivial)
    ·have he:¬bD M hi g < 0:=he
     (refine aI ?_;refine ai ?_;refine ah ?_;refine ab ?_;apply aa rfl;(exact aE (d:=0) rfl rfl rfl (by as_aux_lemma=>kernel_rfl));apply aa rfl;(exact aQ rfl (by as_aux_lemma=>kernel_rfl) rfl rfl rfl rfl);apply aa rfl;(exact ae rfl rfl);apply aa rfl;(exact aU rfl rfl rfl rfl rfl (by as_aux_lemma=>kernel_rfl) (by first | rfl | exact (Int.toNat_of_nonneg (by omega)).symm) (by first | assumption | omega | (simp;omega)) (by first | exact Nat.le_refl _ | exact Nat.le_of_eq (an _).symm | exact Nat.le_of_eq (aw _).symm | (refine Nat.le_trans ?_ (Nat.le_of_eq (an _).symm);(first | omega | (simp;done) | (simp;omega))) | (refine Nat.le_trans ?_ (Nat.le_of_eq (aw _).symm);(first | omega | (simp;done) | (simp;omega)))));apply aa rfl;(exact bo rfl (by as_aux_lemma=>kernel_rfl) rfl rfl rfl (by first | assumption | exact al (by assumption) | exact ar (by assumption) | exact al (by omega) | exact ar (by omega) | rfl) (by first | exact an _ | assumption | rfl));apply aa rfl;(exact ae rfl rfl);apply aa rfl;(exact aS rfl rfl rfl rfl rfl (by as_aux_lemma=>kernel_rfl) (by first | assumption | exact al (by assumption) | exact ar (by assumption) | exact al (by omega) | exact ar (by omega) | rfl) (by first | rfl | exact (Int.toNat_of_nonneg (by omega)).symm) (by first | assumption | omega | (simp;omega)) (by first | exact Nat.le_refl _ | exact Nat.le_of_eq (an _).symm | exact Nat.le_of_eq (aw _).symm | (refine Nat.le_trans ?_ (Nat.le_of_eq (an _).symm);(first | omega | (simp;done) | (simp;omega))) | (refine Nat.le_trans ?_ (Nat.le_of_eq (aw _).symm);(first | omega | (simp;done) | (simp;omega)))));apply aa rfl;(exact aN rfl (by as_aux_lemma=>kernel_rfl) rfl rfl rfl (by first | assumption | exact al (by assumption) | exact ar (by assumption) | exact al (by omega) | exact ar (by omega) | rfl) (by first | assumption | exact al (by assumption) | exact ar (by assumption) | exact al (by omega) | exact ar (by omega) | rfl));apply aa rfl;(exact ag rfl rfl);refine aj ?_;refine ai ?_;refine ah ?_;refine ab ?_;apply aa rfl;(exact ae rfl rfl);apply aa rfl;(exact aD rfl rfl rfl rfl);refine aj ?_;refine ai ?_)
     refine bF rfl (fun hf=> ?_) (fun hf=> ?_)
     ·have hf:bD M lo g≥0:=hf
      have hstep:bm lo hi (im1,h) (g + 1)=(M,(h ++ N) ++ [(bD M hi g,bD M lo g)]):=by rw [bm,hA];exact (if_neg he).trans (if_pos hf)
      (refine ah ?_;refine ab ?_;apply aa rfl;(exact ae rfl rfl);apply aa rfl;(exact ae rfl rfl);apply aa rfl;(exact bM (E:=2) rfl (by as_aux_lemma=>kernel_rfl) rfl);apply aa rfl;(exact bg rfl (by as_aux_lemma=>kernel_rfl) rfl rfl rfl (by first | rfl | assumption | (simp;done)) rfl rfl (by omega));apply aa rfl;(exact ag rfl rfl);refine aj ?_;refine ai ?_;refine ab ?_;apply aa rfl;(exact ae rfl rfl);apply aa rfl;(exact ae rfl rfl);apply aa rfl;(exact bM (E:=2) rfl (by as_aux_lemma=>kernel_rfl) rfl);apply aa rfl;(exact bg rfl (by as_aux_lemma=>kernel_rfl) rfl rfl rfl (by first | rfl | assumption | (simp;done)) rfl rfl (by omega));apply aa rfl;(exact ag rfl rfl);refine aj ?_;refine aK ?_;refine ai ?_;refine ab ?_;apply aa rfl;(exact ae rfl rfl);apply aa rfl;(exact aR rfl rfl rfl (by first | exact IntWalk.i64_in _ (by omega) | rfl));apply aa rfl;(exact ag rfl rfl);refine aj ?_)
      exact aX (g + 1) (by omega) (by omega) (Wk.of (by rw [hstep];exact ⟨rfl,rfl,congrArg (fun x=>some (o1 (.sl 16 0 x))) (sA (h ++ N) (bD M hi g,bD M lo g)),congrArg (fun x=>some (o1 (.sl 18 0 x))) (sA (h ++ N) (bD M hi g,bD M lo g)),rfl,rfl,rfl,rfl,trivial⟩) (by rw [hstep];exact ⟨rfl,rfl,rfl,rfl,congrArg (fun x=>some (⟨true,2,1, .bG (aJ x)⟩:Ch)) (show (h ++ N).map (fun p=>p.1) ++ [bD M hi g]=((h ++ N) ++ [(bD M hi g,bD M lo g)]).map (fun p=>p.1) by simp),congrArg (fun x=>some (⟨true,2,1, .bG (aJ x)⟩:Ch)) (show (h ++ N).map (fun p=>p.2) ++ [bD M lo g]=((h ++ N) ++ [(bD M hi g,bD M lo g)]).map (fun p=>p.2) by simp),trivial⟩) trivial)
     ·have hf:¬bD M lo g≥0:=hf
      have hstep:bm lo hi (im1,h) (g + 1)=(dq M lo g (bD M hi g),h ++ N):=by rw [bm,hA];exact (if_neg he).trans (if_neg hf)
      (refine ab ?_;apply aa rfl;(exact aE (d:=0) rfl rfl rfl (by as_aux_lemma=>kernel_rfl));apply aa rfl;(exact aQ rfl (by as_aux_lemma=>kernel_rfl) rfl rfl rfl rfl);apply aa rfl;(exact ae rfl rfl);apply aa rfl;(exact aU rfl rfl rfl rfl rfl (by as_aux_lemma=>kernel_rfl) (by first | rfl | exact (Int.toNat_of_nonneg (by omega)).symm) (by first | assumption | omega | (simp;omega)) (by first | exact Nat.le_refl _ | exact Nat.le_of_eq (an _).symm | exact Nat.le_of_eq (aw _).symm | (refine Nat.le_trans ?_ (Nat.le_of_eq (an _).symm);(first | omega | (simp;done) | (simp;omega))) | (refine Nat.le_trans ?_ (Nat.le_of_eq (aw _).symm);(first | omega | (simp;done) | (simp;omega)))));apply aa rfl;(exact bo rfl (by as_aux_lemma=>kernel_rfl) rfl rfl rfl (by first | assumption | exact al (by assumption) | exact ar (by assumption) | exact al (by omega) | exact ar (by omega) | rfl) (by first | exact an _ | assumption | rfl));apply aa rfl;(exact ae rfl rfl);apply aa rfl;(exact ae rfl rfl);apply aa rfl;(exact aS rfl rfl rfl rfl rfl (by as_aux_lemma=>kernel_rfl) (by first | assumption | exact al (by assumption) | exact ar (by assumption) | exact al (by omega) | exact ar (by omega) | rfl) (by first | rfl | exact (Int.toNat_of_nonneg (by omega)).symm) (by first | assumption | omega | (simp;omega)) (by first | exact Nat.le_refl _ | exact Nat.le_of_eq (an _).symm | exact Nat.le_of_eq (aw _).symm | (refine Nat.le_trans ?_ (Nat.le_of_eq (an _).symm);(first | omega | (simp;done) | (simp;omega))) | (refine Nat.le_trans ?_ (Nat.le_of_eq (aw _).symm);(first | omega | (simp;done) | (simp;omega)))));apply aa rfl;(exact bT rfl rfl rfl rfl rfl (by first | assumption | omega | (simp;omega)) (by first | assumption | omega | (simp;omega)) (by as_aux_lemma=>kernel_rfl));refine aj ?_;refine aK ?_;refine ai ?_;refine ab ?_;apply aa rfl;(exact ae rfl rfl);apply aa rfl;(exact aR rfl rfl rfl (by first | exact IntWalk.i64_in _ (by omega) | rfl));apply aa rfl;(exact ag rfl rfl);refine aj ?_)
      exact aX (g + 1) (by omega) (by omega) (Wk.of (by rw [hstep];exact ⟨rfl,rfl,rfl,rfl,rfl,rfl,rfl,rfl,trivial⟩) (by rw [hstep];exact ⟨rfl,rfl,rfl,rfl,rfl,rfl,trivial⟩) trivial)
   ·have hgl:¬(g:Int) < ((bu M hi).length:Nat):=hgl
    obtain rfl:g=ng:=by omega
    rw [hAq] at hm1 hm2 hm3 hm4
    dsimp only at hm1 hm2 hm3 hm4
    have hdr:(h ++ N).drop (i + 1)=q ++ N:=by rw [List.drop_append_of_le_length (by omega),hqq]
    (refine a5 ?_;refine ax ?_;refine ax ?_;refine aM ?_;refine aK ?_;refine ai ?_;refine ab ?_;apply aa rfl;(exact ae rfl rfl);apply aa rfl;(exact aR rfl rfl rfl (by first | exact IntWalk.i64_in _ (by omega) | rfl));apply aa rfl;(exact ag rfl rfl);refine aj ?_)
    exact aX (M,less1.set hi (lo:Int),h ++ N,i + 1) ⟨hm2,by rw [List.length_set];exact hn1,by show i + 1≤(h ++ N).length;rw [List.length_append];omega,by show kT n ((h ++ N).drop (i + 1));rw [hdr,←hn1];exact hm3,by show i + 1 + fuel _ (less1.set hi (lo:Int)) ((h ++ N).drop (i + 1))≤2100000;rw [hdr];omega,by show ident _ _ _ ((h ++ N).drop (i + 1))=R;rw [hdr,←hm1];exact hr⟩ (by show fuel _ _ ((h ++ N).drop (i + 1)) < fuel _ less1 (h.drop i);rw [hdr,hpq];exact hm4) (Wk.of ⟨rfl,rfl,rfl,rfl,rfl,trivial⟩ ⟨rfl,rfl,rfl,rfl,rfl,rfl,trivial⟩ trivial)
 ·have hie:h.drop i= []:=List.drop_of_length_le (by omega)
  rw [hie,qi] at hr
  subst hr
  (refine a5 ?_;refine ax ?_;refine ax ?_;refine aM ?_;refine ai ?_;refine ah ?_;refine ab ?_;apply aa rfl;(exact a3 rfl rfl rfl rfl rfl rfl (by as_aux_lemma=>kernel_rfl));apply aa rfl;(exact a6 rfl rfl rfl rfl rfl rfl rfl rfl (by as_aux_lemma=>kernel_rfl) rfl);refine aj ?_;refine ai ?_;refine aW ?_)
  exact bd (.inl rfl) rfl (.cell rfl rfl rfl rfl rfl (by kernel_rfl)) ⟨rfl,rfl,trivial⟩ trivial
end Go.Proofs.Ytekbhbcgoadciaa
namespace Go.Proofs.Ytekbhbcgoadciaa
open Go.RowKit
set_option maxRecDepth 100000 in
set_option maxHeartbeats 1000000 in
theorem ou (ng n:Nat) (im:List (List Int)) (less:List Int) (c g:Nat) (hn:less.length=n) (hw:WF ng im less) (hc:c < n) (hg:g < ng) (h2:n≤2000) (hng:ng≤1000):
  FC Try.prog 71 [(1000,cz im),(1001,bw less)] [uF n n false,vv (I6 c),vv (I6 g)] [(1000,cz (bI ng im less c g).1),(1001,bw (bI ng im less c g).2.1)]
   (.tup [.agg [.sl 1000 0 (bI ng im less c g).2.1.length, .sl 1001 0 (bI ng im less c g).2.1.length, .val (.bool (bI ng im less c g).2.2.1)], .one (.val (I6 (bI ng im less c g).2.2.2))]) []:=by
 have hm:im.length=n:=hw.len.trans hn
 have hrow:=hw.row c (by omega)
 have hrow0:=hw.row 0 (by omega)
 have hent:=hw.bD c g (by omega) hg
 have h0im:0 < im.length:=by omega
 refine bc (nt:=49) Try.func71 rfl rfl (by simp) fun w0 ω0=> ?_
 have hF:=gx im less n n c g false hm hn hw.down (by omega) (by omega) (by omega)
 (refine ah ?_;refine ab ?_;apply aa rfl;(exact cS rfl rfl rfl rfl);apply aa rfl;(exact b7 [.slice none 0 0, .slice none 0 0, .bool false] rfl (by as_aux_lemma=>kernel_rfl));apply aa rfl;(exact ag rfl rfl);refine aj ?_;refine ai ?_;refine ah ?_;refine ah ?_;refine ab ?_;apply aa rfl;(exact a3 rfl rfl rfl rfl rfl rfl (by as_aux_lemma=>kernel_rfl));apply aa rfl;(exact ae rfl rfl);apply aa rfl;(exact ae rfl rfl);apply aa rfl;(apply ak 49;exact aq hF (by as_aux_lemma=>kernel_rfl) rfl rfl ⟨⟨.inl rfl, .inl rfl, .inl rfl,trivial⟩,rfl,rfl,trivial⟩ ⟨⟨_,rfl, .inr rfl⟩,⟨_,rfl, .inr rfl⟩,trivial⟩ rfl rfl);apply aa rfl;(exact ag rfl rfl);refine aj ?_;refine ai ?_;refine ah ?_;refine ab ?_;apply aa rfl;(exact ae rfl rfl);apply aa rfl;(exact aD rfl rfl rfl rfl);refine aj ?_;refine ai ?_)
 by_cases h0:0≤bD im c g
 ·have hi:image im less c g=root less (bD im c g).toNat:=if_neg (by omega)
  have hx:bI ng im less c g=(im,less,false,root less (bD im c g).toNat):=if_pos h0
  rw [hx,hi]
  dsimp only
  rw [hn]
  refine bF rfl (fun h=> ?_) (fun h=>absurd (show (root less (bD im c g).toNat:Int)≥0 by omega) h)
  (refine ah ?_;refine ab ?_;apply aa rfl;(exact a3 rfl rfl rfl rfl rfl rfl (by as_aux_lemma=>kernel_rfl));apply aa rfl;(exact ae rfl rfl);apply aa rfl;(exact a6 rfl rfl rfl rfl rfl rfl rfl rfl (by as_aux_lemma=>kernel_rfl) rfl);apply aa rfl;(exact ag rfl rfl);refine aj ?_;refine ai ?_;refine aW ?_;refine aT ?_)
  exact cH (.inl rfl) rfl (.cell rfl rfl rfl rfl rfl (by kernel_rfl)) (.tmp rfl) ⟨rfl,rfl,trivial⟩ trivial
 ·have hi:image im less c g= -1:=if_pos (by omega)
  rw [hi]
  refine bF rfl (fun h=>absurd h (by show ¬(-1:Int)≥0;omega)) (fun h=> ?_)
  (refine aI ?_;refine ai ?_;refine ah ?_)
  by_cases hf:less.length=2000
  ·have hx:bI ng im less c g=(im,less,true,0):=(if_neg h0).trans (if_pos hf)
   rw [hx]
   dsimp only
   rw [hn]
   have hD:=nY im less n n (bu im 0).length false hm hn hf
   apply dG 6 [] [[], [], [1], [1,2], [1,2,3], [1,2,3,4], [0,1,2,3,4,5], [0,1,2,3,4,5,6], [0,1,2,3,4,5,6,7], [0,1,2,3,4,5,6,7], [0,1,2,3,4,5,6,7,8], [0,1,2,3,4,5,6,7,8,9,10]] [19,20,21,22,23,24] [] (by kernel_rfl) (by kernel_rfl)
   ·(apply aF rfl;(intro S1 hS;exact a3 rfl (hS.op rfl) (hS.ch _ _ rfl) rfl rfl rfl (by as_aux_lemma=>kernel_rfl));apply aF rfl;(intro S1 hS;exact aE (d:=0) rfl (hS.op rfl) (hS.ch _ _ rfl) (by as_aux_lemma=>kernel_rfl));apply aF rfl;(intro S1 hS;exact aQ rfl (by as_aux_lemma=>kernel_rfl) (hS.op rfl) (hS.ch _ _ rfl) rfl rfl);apply aF rfl;(intro S1 hS;exact aU rfl (hS.op rfl) (hS.op rfl) (hS.ch _ _ rfl) rfl (by as_aux_lemma=>kernel_rfl) (by first | rfl | exact (Int.toNat_of_nonneg (by omega)).symm) (by first | assumption | omega | (simp;omega)) (by first | exact Nat.le_refl _ | exact Nat.le_of_eq (an _).symm | exact Nat.le_of_eq (aw _).symm | (refine Nat.le_trans ?_ (Nat.le_of_eq (an _).symm);(first | omega | (simp;done) | (simp;omega))) | (refine Nat.le_trans ?_ (Nat.le_of_eq (aw _).symm);(first | omega | (simp;done) | (simp;omega)))));apply aF rfl;(intro S1 hS;exact bo rfl (by as_aux_lemma=>kernel_rfl) (hS.op rfl) (hS.ch _ _ rfl) rfl (by first | assumption | exact al (by assumption) | exact ar (by assumption) | exact al (by omega) | exact ar (by omega) | rfl) (by first | exact an _ | assumption | rfl));apply aF rfl;(intro S1 hS;exact a8 rfl (hS.op rfl) rfl (by as_aux_lemma=>kernel_rfl));exact ey.nil)
   ·rfl
   refine c7 (St.of [(1,vv (I6 c)),(2,vv (I6 g)),(3,o1 (.ptr 3 0)),(6,o1 (.ptr 6 0)),(9,vv (I6 0))] [(1000,cz im),(1001,bw less),(3,⟨true,72,3, .flat [.sl 1000 0 n, .sl 1001 0 n, .val (.bool true)]⟩),(6,⟨true,72,3, .flat [.val (.slice none 0 0), .val (.slice none 0 0), .val (.bool false)]⟩)]) ?_ ?_
   ·((apply aA 6 rfl (by as_aux_lemma=>kernel_rfl) rfl rfl;(apply ak 69;exact ct [] hD (by as_aux_lemma=>kernel_rfl) rfl rfl ⟨⟨.inl rfl, .inl rfl, .inl rfl,trivial⟩,rfl,trivial⟩ ⟨⟨_,rfl, .inl rfl⟩,⟨_,rfl, .inl rfl⟩,trivial⟩ trivial rfl rfl));(apply aA 7 rfl (by as_aux_lemma=>kernel_rfl) rfl rfl;(exact ae rfl rfl));(apply bL 8 9 rfl (by as_aux_lemma=>kernel_rfl) rfl rfl rfl rfl;(exact aZ rfl rfl rfl);(exact aZ rfl rfl rfl);(focus ((apply bL 9 10 rfl (by as_aux_lemma=>kernel_rfl) rfl rfl rfl rfl;(exact aZ rfl rfl rfl);(exact a6 rfl rfl rfl rfl rfl rfl rfl rfl (by as_aux_lemma=>kernel_rfl) rfl);(focus ((apply aA 10 rfl (by as_aux_lemma=>kernel_rfl) rfl rfl;(exact a6 rfl rfl rfl rfl rfl rfl rfl rfl (by as_aux_lemma=>kernel_rfl) rfl));(apply aA 11 rfl (by as_aux_lemma=>kernel_rfl) rfl rfl;(exact ag rfl rfl));(refine aY (by as_aux_lemma=>kernel_rfl) ?_;exact aL (Wk.of ⟨rfl,rfl,rfl,rfl,rfl,trivial⟩ ⟨rfl,rfl,rfl,rfl,trivial⟩ trivial))));(focus ((apply aA 9 rfl (by as_aux_lemma=>kernel_rfl) rfl rfl;(exact aZ rfl rfl rfl));(apply aA 11 rfl (by as_aux_lemma=>kernel_rfl) rfl rfl;(exact ag rfl rfl));(refine aY (by as_aux_lemma=>kernel_rfl) ?_;exact aL (Wk.of ⟨rfl,rfl,rfl,rfl,rfl,trivial⟩ ⟨rfl,rfl,rfl,rfl,trivial⟩ trivial)))))));(focus ((apply aA 8 rfl (by as_aux_lemma=>kernel_rfl) rfl rfl;(exact aZ rfl rfl rfl));(apply aA 10 rfl (by as_aux_lemma=>kernel_rfl) rfl rfl;(exact a6 rfl rfl rfl rfl rfl rfl rfl rfl (by as_aux_lemma=>kernel_rfl) rfl));(apply aA 11 rfl (by as_aux_lemma=>kernel_rfl) rfl rfl;(exact ag rfl rfl));(refine aY (by as_aux_lemma=>kernel_rfl) ?_;exact aL (Wk.of ⟨rfl,rfl,rfl,rfl,rfl,trivial⟩ ⟨rfl,rfl,rfl,rfl,trivial⟩ trivial))))))
   (refine ai ?_;refine ah ?_;refine ah ?_;refine ab ?_;apply aa rfl;(exact aE (d:=2) rfl rfl rfl (by as_aux_lemma=>kernel_rfl));apply aa rfl;(exact aQ rfl (by as_aux_lemma=>kernel_rfl) rfl rfl rfl rfl);refine aj ?_;refine ai ?_)
   refine au rfl (fun _=> ?_) (fun e=>by cases e)
   (refine ah ?_;refine ab ?_;apply aa rfl;(exact a3 rfl rfl rfl rfl rfl rfl (by as_aux_lemma=>kernel_rfl));apply aa rfl;(exact a6 rfl rfl rfl rfl rfl rfl rfl rfl (by as_aux_lemma=>kernel_rfl) rfl);apply aa rfl;(exact ag rfl rfl);refine aj ?_;refine ai ?_;refine aW ?_;refine aT ?_)
   exact cH (.inl rfl) rfl (.cell rfl rfl rfl rfl rfl (by kernel_rfl)) (.tmp rfl) ⟨rfl,rfl,trivial⟩ trivial
  ·have hx:bI ng im less c g=(kY ng im n c g,less ++ [(n:Int)],false,n):=by rw [←hn];exact (if_neg h0).trans (if_neg hf)
   rw [hx]
   dsimp only
   rw [List.length_append,hn]
   have hD:=lT im less n n ng false hm hn (by omega) hng (by omega)
   apply dG 6 [] [[], [], [1], [1,2], [1,2,3], [1,2,3,4], [0,1,2,3,4,5], [0,1,2,3,4,5,6], [0,1,2,3,4,5,6,7], [0,1,2,3,4,5,6,7], [0,1,2,3,4,5,6,7,8], [0,1,2,3,4,5,6,7,8,9,10]] [19,20,21,22,23,24] [] (by kernel_rfl) (by kernel_rfl)
   ·(apply aF rfl;(intro S1 hS;exact a3 rfl (hS.op rfl) (hS.ch _ _ rfl) rfl rfl rfl (by as_aux_lemma=>kernel_rfl));apply aF rfl;(intro S1 hS;exact aE (d:=0) rfl (hS.op rfl) (hS.ch _ _ rfl) (by as_aux_lemma=>kernel_rfl));apply aF rfl;(intro S1 hS;exact aQ rfl (by as_aux_lemma=>kernel_rfl) (hS.op rfl) (hS.ch _ _ rfl) rfl rfl);apply aF rfl;(intro S1 hS;exact aU rfl (hS.op rfl) (hS.op rfl) (hS.ch _ _ rfl) rfl (by as_aux_lemma=>kernel_rfl) (by first | rfl | exact (Int.toNat_of_nonneg (by omega)).symm) (by first | assumption | omega | (simp;omega)) (by first | exact Nat.le_refl _ | exact Nat.le_of_eq (an _).symm | exact Nat.le_of_eq (aw _).symm | (refine Nat.le_trans ?_ (Nat.le_of_eq (an _).symm);(first | omega | (simp;done) | (simp;omega))) | (refine Nat.le_trans ?_ (Nat.le_of_eq (aw _).symm);(first | omega | (simp;done) | (simp;omega)))));apply aF rfl;(intro S1 hS;exact bo rfl (by as_aux_lemma=>kernel_rfl) (hS.op rfl) (hS.ch _ _ rfl) rfl (by first | assumption | exact al (by assumption) | exact ar (by assumption) | exact al (by omega) | exact ar (by omega) | rfl) (by first | exact an _ | assumption | rfl));apply aF rfl;(intro S1 hS;exact a8 rfl (hS.op rfl) rfl (by as_aux_lemma=>kernel_rfl));exact ey.nil)
   ·rfl
   refine c7 (St.of [(1,vv (I6 c)),(2,vv (I6 g)),(3,o1 (.ptr 3 0)),(6,o1 (.ptr 6 0)),(9,vv (I6 n))] [(1000,cz (im ++ [List.replicate ng (-1)])),(1001,bw (less ++ [(n:Int)])),(3,⟨true,72,3, .flat [.sl 1000 0 (n + 1), .sl 1001 0 (n + 1), .val (.bool false)]⟩),(6,⟨true,72,3, .flat [.val (.slice none 0 0), .val (.slice none 0 0), .val (.bool false)]⟩)]) ?_ ?_
   ·((apply aA 6 rfl (by as_aux_lemma=>kernel_rfl) rfl rfl;(apply ak 69;exact ct [] hD (by as_aux_lemma=>kernel_rfl) rfl rfl ⟨⟨.inl rfl, .inl rfl, .inl rfl,trivial⟩,congrArg (fun k:Nat=>vv (I6 k)) hrow0,trivial⟩ ⟨⟨_,rfl, .inl rfl⟩,⟨_,rfl, .inl rfl⟩,trivial⟩ trivial rfl rfl));(apply aA 7 rfl (by as_aux_lemma=>kernel_rfl) rfl rfl;(exact ae rfl rfl));(apply bL 8 9 rfl (by as_aux_lemma=>kernel_rfl) rfl rfl rfl rfl;(exact aZ rfl rfl rfl);(exact aZ rfl rfl rfl);(focus ((apply bL 9 10 rfl (by as_aux_lemma=>kernel_rfl) rfl rfl rfl rfl;(exact aZ rfl rfl rfl);(exact a6 rfl rfl rfl rfl rfl rfl rfl rfl (by as_aux_lemma=>kernel_rfl) rfl);(focus ((apply aA 10 rfl (by as_aux_lemma=>kernel_rfl) rfl rfl;(exact a6 rfl rfl rfl rfl rfl rfl rfl rfl (by as_aux_lemma=>kernel_rfl) rfl));(apply aA 11 rfl (by as_aux_lemma=>kernel_rfl) rfl rfl;(exact ag rfl rfl));(refine aY (by as_aux_lemma=>kernel_rfl) ?_;exact aL (Wk.of ⟨rfl,rfl,rfl,rfl,rfl,trivial⟩ ⟨rfl,rfl,rfl,rfl,trivial⟩ trivial))));(focus ((apply aA 9 rfl (by as_aux_lemma=>kernel_rfl) rfl rfl;(exact aZ rfl rfl rfl));(apply aA 11 rfl (by as_aux_lemma=>kernel_rfl) rfl rfl;(exact ag rfl rfl));(refine aY (by as_aux_lemma=>kernel_rfl) ?_;exact aL (Wk.of ⟨rfl,rfl,rfl,rfl,rfl,trivial⟩ ⟨rfl,rfl,rfl,rfl,trivial⟩ trivial)))))));(focus ((apply aA 8 rfl (by as_aux_lemma=>kernel_rfl) rfl rfl;(exact aZ rfl rfl rfl));(apply aA 10 rfl (by as_aux_lemma=>kernel_rfl) rfl rfl;(exact a6 rfl rfl rfl rfl rfl rfl rfl rfl (by as_aux_lemma=>kernel_rfl) rfl));(apply aA 11 rfl (by as_aux_lemma=>kernel_rfl) rfl rfl;(exact ag rfl rfl));(refine aY (by as_aux_lemma=>kernel_rfl) ?_;exact aL (Wk.of ⟨rfl,rfl,rfl,rfl,rfl,trivial⟩ ⟨rfl,rfl,rfl,rfl,trivial⟩ trivial))))))
   have h1:=(hw.app).row c (by simp;omega)
   have hlc:(bu (im ++ [List.replicate ng (-1)]) c).length=ng:=h1
   have hl:(im ++ [List.replicate ng (-1)]).length=n + 1:=by simp [hm]
   have hln:(bu (dq (im ++ [List.replicate ng (-1)]) c g n) n).length=ng:=by rw [gp,←hm,eL];simp
   have hl2:(dq (im ++ [List.replicate ng (-1)]) c g n).length=n + 1:=by rw [cU];exact hl
   (refine ai ?_;refine ah ?_;refine ah ?_;refine ab ?_;apply aa rfl;(exact aE (d:=2) rfl rfl rfl (by as_aux_lemma=>kernel_rfl));apply aa rfl;(exact aQ rfl (by as_aux_lemma=>kernel_rfl) rfl rfl rfl rfl);refine aj ?_;refine ai ?_)
   refine au rfl (fun e=>by cases e) (fun _=> ?_)
   (refine aI ?_;refine ai ?_;refine ah ?_;refine ab ?_;apply aa rfl;(exact aE (d:=0) rfl rfl rfl (by as_aux_lemma=>kernel_rfl));apply aa rfl;(exact aQ rfl (by as_aux_lemma=>kernel_rfl) rfl rfl rfl rfl);apply aa rfl;(exact ae rfl rfl);apply aa rfl;(exact aU rfl rfl rfl rfl rfl (by as_aux_lemma=>kernel_rfl) (by first | rfl | exact (Int.toNat_of_nonneg (by omega)).symm) (by first | assumption | omega | (simp;omega)) (by first | exact Nat.le_refl _ | exact Nat.le_of_eq (an _).symm | exact Nat.le_of_eq (aw _).symm | (refine Nat.le_trans ?_ (Nat.le_of_eq (an _).symm);(first | omega | (simp;done) | (simp;omega))) | (refine Nat.le_trans ?_ (Nat.le_of_eq (aw _).symm);(first | omega | (simp;done) | (simp;omega)))));apply aa rfl;(exact bo rfl (by as_aux_lemma=>kernel_rfl) rfl rfl rfl (by first | assumption | exact al (by assumption) | exact ar (by assumption) | exact al (by omega) | exact ar (by omega) | rfl) (by first | exact an _ | assumption | rfl));apply aa rfl;(exact ae rfl rfl);apply aa rfl;(exact ae rfl rfl);apply aa rfl;(exact aS rfl rfl rfl rfl rfl (by as_aux_lemma=>kernel_rfl) (by first | assumption | exact al (by assumption) | exact ar (by assumption) | exact al (by omega) | exact ar (by omega) | rfl) (by first | rfl | exact (Int.toNat_of_nonneg (by omega)).symm) (by first | assumption | omega | (simp;omega)) (by first | exact Nat.le_refl _ | exact Nat.le_of_eq (an _).symm | exact Nat.le_of_eq (aw _).symm | (refine Nat.le_trans ?_ (Nat.le_of_eq (an _).symm);(first | omega | (simp;done) | (simp;omega))) | (refine Nat.le_trans ?_ (Nat.le_of_eq (aw _).symm);(first | omega | (simp;done) | (simp;omega)))));apply aa rfl;(exact bT rfl rfl rfl rfl rfl (by first | assumption | omega | (simp;omega)) (by first | assumption | omega | (simp;omega)) (by as_aux_lemma=>kernel_rfl));refine aj ?_;refine ai ?_;refine ah ?_;refine ab ?_;apply aa rfl;(exact aE (d:=0) rfl rfl rfl (by as_aux_lemma=>kernel_rfl));apply aa rfl;(exact aQ rfl (by as_aux_lemma=>kernel_rfl) rfl rfl rfl rfl);apply aa rfl;(exact ae rfl rfl);apply aa rfl;(exact aU rfl rfl rfl rfl rfl (by as_aux_lemma=>kernel_rfl) (by first | rfl | exact (Int.toNat_of_nonneg (by omega)).symm) (by first | assumption | omega | (simp;omega)) (by first | exact Nat.le_refl _ | exact Nat.le_of_eq (an _).symm | exact Nat.le_of_eq (aw _).symm | (refine Nat.le_trans ?_ (Nat.le_of_eq (an _).symm);(first | omega | (simp;done) | (simp;omega))) | (refine Nat.le_trans ?_ (Nat.le_of_eq (aw _).symm);(first | omega | (simp;done) | (simp;omega)))));apply aa rfl;(exact bo rfl (by as_aux_lemma=>kernel_rfl) rfl rfl rfl (by first | assumption | exact al (by assumption) | exact ar (by assumption) | exact al (by omega) | exact ar (by omega) | rfl) (by first | exact an _ | assumption | rfl));apply aa rfl;(exact ae rfl rfl);apply aa rfl;(exact ae rfl rfl);apply aa rfl;(exact aS rfl rfl rfl rfl rfl (by as_aux_lemma=>kernel_rfl) (by first | assumption | exact al (by assumption) | exact ar (by assumption) | exact al (by omega) | exact ar (by omega) | rfl) (by first | rfl | exact (Int.toNat_of_nonneg (by omega)).symm) (by first | assumption | omega | (simp;omega)) (by first | exact Nat.le_refl _ | exact Nat.le_of_eq (an _).symm | exact Nat.le_of_eq (aw _).symm | (refine Nat.le_trans ?_ (Nat.le_of_eq (an _).symm);(first | omega | (simp;done) | (simp;omega))) | (refine Nat.le_trans ?_ (Nat.le_of_eq (aw _).symm);(first | omega | (simp;done) | (simp;omega)))));apply aa rfl;(exact bT rfl rfl rfl rfl rfl (by first | assumption | omega | (simp;omega)) (by first | assumption | omega | (simp;omega)) (by as_aux_lemma=>kernel_rfl));refine aj ?_;refine ai ?_;refine ah ?_;refine ab ?_;apply aa rfl;(exact a3 rfl rfl rfl rfl rfl rfl (by as_aux_lemma=>kernel_rfl));apply aa rfl;(exact ae rfl rfl);apply aa rfl;(exact a6 rfl rfl rfl rfl rfl rfl rfl rfl (by as_aux_lemma=>kernel_rfl) rfl);apply aa rfl;(exact ag rfl rfl);refine aj ?_;refine ai ?_;refine aW ?_)
   exact cH (.inl rfl) rfl (.cell rfl rfl rfl rfl rfl (by kernel_rfl)) (.tmp rfl) ⟨rfl,rfl,trivial⟩ trivial
end Go.Proofs.Ytekbhbcgoadciaa
namespace Go.Proofs.Ytekbhbcgoadciaa
open Go.RowKit
set_option maxRecDepth 100000 in
set_option maxHeartbeats 1000000 in
theorem m8 (ng n:Nat) (im:List (List Int)) (less:List Int) (c:Nat) (wss:List (List Int)) (i k:Nat) (W:List Int) (hn:less.length=n) (hw:WF ng im less) (hc:c < n) (h2:n≤2000) (hng:ng≤1000) (hi:i < wss.length) (hW:bu wss i=W) (hk:W.length=k) (hk2:k≤1000000000) (hg:∀z∈W,0≤z∧z < ng) (C:List (List Int)×List Int×Bool) (hC:cu ng im less c (W.map Int.toNat)=C):
  FC Try.prog 70 [(1000,cz im),(1001,bw less),(1002,aV wss)] [uF n n false,vv (I6 c),o1 (.esl 1002 i 0 k)] [(1000,cz C.1),(1001,bw C.2.1)]
   (.s (.agg [.sl 1000 0 C.2.1.length, .sl 1001 0 C.2.1.length, .val (.bool C.2.2)])) []:=by
 have hrowW:(bK wss)[i]? =some (aJ W):=by rw [←hW];exact ar hi
 refine bc (nt:=86) Try.func70 rfl rfl (by simp) fun w0 ω0=> ?_
 (refine ah ?_;refine ab ?_;apply aa rfl;(exact cS rfl rfl rfl rfl);apply aa rfl;(exact b7 [.slice none 0 0, .slice none 0 0, .bool false] rfl (by as_aux_lemma=>kernel_rfl));refine aj ?_;refine ai ?_;refine ah ?_;refine ah ?_;refine ab ?_;apply aa rfl;(exact ae rfl rfl);apply aa rfl;(exact a8 rfl rfl rfl (by as_aux_lemma=>kernel_rfl));apply aa rfl;(exact aD rfl rfl rfl rfl);refine aj ?_;refine ai ?_)
 by_cases h0:k=0
 ·have hWe:W= []:=List.length_eq_zero_iff.1 (hk.trans h0)
  have hx:C=(im,less,false):=by rw [←hC,hWe];rfl
  subst hx
  dsimp only
  rw [hn]
  refine bF rfl (fun h=> ?_) (fun h=>absurd (show (k:Int)=0 by omega) h)
  (refine ah ?_;refine ab ?_;apply aa rfl;(exact a3 rfl rfl rfl rfl rfl rfl (by as_aux_lemma=>kernel_rfl));apply aa rfl;(exact a6 rfl rfl rfl rfl rfl rfl rfl rfl (by as_aux_lemma=>kernel_rfl) rfl);refine aj ?_;refine ai ?_;refine aW ?_;refine aT ?_)
  exact bd (.inl rfl) rfl (.cell rfl rfl rfl rfl rfl (by kernel_rfl)) ⟨rfl,rfl,trivial⟩ trivial
 ·obtain ⟨g,hgl⟩:∃g,(W.map Int.toNat).getLast?=some g:=by
   cases hh:(W.map Int.toNat).getLast? with
   | some g=>exact ⟨g,rfl⟩
   | none=>
    have:W.map Int.toNat= []:=List.getLast?_eq_none_iff.1 hh
    simp at this;subst this;exact absurd hk.symm h0
  refine bF rfl (fun h=>absurd (show (k:Int)=0 from h) (by omega)) (fun _=> ?_)
  (refine aI ?_;refine ai ?_;refine ah ?_;refine ab ?_;apply aa rfl;(exact ae rfl rfl);apply aa rfl;(exact ag rfl rfl);refine aj ?_;refine ai ?_;refine ah ?_;refine ah ?_;refine ab ?_;apply aa rfl;(exact ag rfl rfl);refine aj ?_;refine ai ?_;refine aB ?_)
  have step:∀j,j < k→(W.map Int.toNat).take (j + 1)=(W.map Int.toNat).take j ++ [(aC W j).toNat]:=fun j hj=>by
   rw [List.take_succ_eq_append_getElem (by simp;omega)];simp [cG (show j < W.length by omega)]
  refine bl (fun j:Nat×(List (List Int)×List Int×Bool×Nat)=>St.of [(1,vv (I6 c)),(2,o1 (.esl 1002 i 0 k)),(3,o1 (.ptr 3 0)),(6,o1 (.ptr 6 0)),(7,vv (I6 j.2.2.2.2)),(8,vv (I6 j.1))]
    [(1000,cz j.2.1),(1001,bw j.2.2.1),(1002,aV wss),(3,⟨true,72,3, .flat [.sl 1000 0 j.2.2.1.length, .sl 1001 0 j.2.2.1.length, .val (.bool false)]⟩),(6,⟨true,72,3, .flat [.val (.slice none 0 0), .val (.slice none 0 0), .val (.bool false)]⟩)])
   (fun j=>j.1 < k∧j.2.2.2.1=false∧fO ng (im,less,false,c) ((W.map Int.toNat).take j.1)=j.2∧rr ng n j.2)
   (fun j=>k - j.1) (0,(im,less,false,c)) ⟨by omega,rfl,rfl,⟨hw,by show n≤less.length;omega,by show less.length≤2000;omega,by show c < less.length;omega⟩⟩ (Wk.of ⟨rfl,rfl,rfl,rfl,rfl,rfl,trivial⟩ (by dsimp only;rw [hn];exact ⟨rfl,rfl,rfl,rfl,rfl,trivial⟩) trivial) ?_
  rintro ⟨j,M,N,b,d⟩ ⟨hj,hb,hgo,hok⟩
  dsimp only at hj hb hgo hok ⊢
  subst hb
  obtain ⟨hw1,hlo,hhi,hd⟩:=hok
  dsimp only at hw1 hlo hhi hd
  have hm1:=hw1.len
  (refine ah ?_;refine ah ?_;refine ab ?_;apply aa rfl;(exact ae rfl rfl);apply aa rfl;(exact aR rfl rfl rfl (by first | exact IntWalk.i64_in _ (by omega) | rfl));apply aa rfl;(exact ae rfl rfl);apply aa rfl;(exact a8 rfl rfl rfl (by as_aux_lemma=>kernel_rfl));apply aa rfl;(exact aD rfl rfl rfl rfl);refine aj ?_;refine ai ?_)
  refine bF rfl (fun hlt=> ?_) (fun hlt=> ?_)
  ·have hlt:((j:Int) + 1) < (k:Nat):=hlt
   have hgj:=hg (aC W j) (eF (by omega))
   (refine aI ?_;refine ai ?_;refine ah ?_;refine aB ?_;refine ah ?_)
   obtain ⟨R,hR⟩:∃R,bI ng M N d (aC W j).toNat=R:=⟨_,rfl⟩
   have hN:=ou ng N.length M N d (aC W j).toNat rfl hw1 hd (by omega) hhi hng
   have hok':=fz hw1 hd (show (aC W j).toNat < ng by omega) hhi
   have hgo':fO ng (im,less,false,c) ((W.map Int.toNat).take (j + 1))=R:=by
    rw [step j hj,kB,hgo,←hR];rfl
   rw [hR] at hN hok'
   obtain ⟨M',N',b',d'⟩:=R
   dsimp only at hN hok'
   obtain ⟨k1,k2,k3,k4,_⟩:=hok'
   apply ld 11 [6,7,8,9] 10 [[], [], [], [], [2,3], [2,3,4], [0,1,2,3,4,5], [0,1,2,3,4,5,6], [0,1,2,3,4,5,6,7], [0,1,2,3,4,5,6,7], [], [0,1,2,3,4,5,6,7,8,10], [0,1,2,3,4,5,6,7,8,9,10,11]] [27,28,29,30,31,32,1000006,1000007,1000008,1000009,9] [9] (by kernel_rfl) (by kernel_rfl) rfl
   ·(apply aF rfl;(intro S1 hS;exact a3 rfl (hS.op rfl) (hS.ch _ _ rfl) rfl rfl rfl (by as_aux_lemma=>kernel_rfl));apply aF rfl;(intro S1 hS;exact ae rfl (hS.op rfl));apply aF rfl;(intro S1 hS;exact ae rfl (hS.op rfl));apply aF rfl;(intro S1 hS;exact ae rfl (hS.op rfl));apply aF rfl;(intro S1 hS;exact aS rfl (hS.op rfl) (hS.op rfl) (hS.ch _ _ rfl) rfl (by as_aux_lemma=>kernel_rfl) (by first | assumption | exact al (by assumption) | exact ar (by assumption) | exact al (by omega) | exact ar (by omega) | rfl) (by first | rfl | exact (Int.toNat_of_nonneg (by omega)).symm) (by first | assumption | omega | (simp;omega)) (by first | exact Nat.le_refl _ | exact Nat.le_of_eq (an _).symm | exact Nat.le_of_eq (aw _).symm | (refine Nat.le_trans ?_ (Nat.le_of_eq (an _).symm);(first | omega | (simp;done) | (simp;omega))) | (refine Nat.le_trans ?_ (Nat.le_of_eq (aw _).symm);(first | omega | (simp;done) | (simp;omega)))));apply aF rfl;(intro S1 hS;exact aN rfl (by as_aux_lemma=>kernel_rfl) (hS.op rfl) (hS.ch _ _ rfl) rfl (by first | assumption | exact al (by assumption) | exact ar (by assumption) | exact al (by omega) | exact ar (by omega) | rfl) (by first | assumption | exact al (by assumption) | exact ar (by assumption) | exact al (by omega) | exact ar (by omega) | rfl));apply kC rfl;apply kC rfl;apply kC rfl;apply kC rfl;apply fJ rfl;(intro S1 hS;exact b7 [.slice none 0 0, .slice none 0 0, .bool false] rfl (by as_aux_lemma=>kernel_rfl));exact ey.nil)
   ·rfl
   ·refine c7 (St.of [(1,vv (I6 c)),(2,o1 (.esl 1002 i 0 k)),(3,o1 (.ptr 3 0)),(6,o1 (.ptr 6 0)),(8,vv (I6 j)),(9,o1 (.ptr 9 0)),(10,vv (I6 d'))] [(1000,cz M'),(1001,bw N'),(1002,aV wss),(3,⟨true,72,3, .flat [.any, .any, .val (.bool false)]⟩),(6,⟨true,72,3, .flat [.val (.slice none 0 0), .val (.slice none 0 0), .val (.bool false)]⟩),(9,⟨true,72,3, .flat [.sl 1000 0 N'.length, .sl 1001 0 N'.length, .val (.bool b')]⟩)]) ?_ ?_
    ·((apply aA 6 rfl (by as_aux_lemma=>kernel_rfl) rfl rfl;(apply ak 71;exact ct [] hN (by as_aux_lemma=>kernel_rfl) rfl rfl ⟨⟨.inl rfl, .inl rfl, .inl rfl,trivial⟩,rfl,Bd (by omega),trivial⟩ ⟨⟨_,rfl, .inl rfl⟩,⟨_,rfl, .inl rfl⟩,trivial⟩ trivial rfl rfl));(apply aA 7 rfl (by as_aux_lemma=>kernel_rfl) rfl rfl;(exact ae rfl rfl));(apply bL 8 9 rfl (by as_aux_lemma=>kernel_rfl) rfl rfl rfl rfl;(exact aZ rfl rfl rfl);(exact aZ rfl rfl rfl);(focus ((apply bL 9 11 rfl (by as_aux_lemma=>kernel_rfl) rfl rfl rfl rfl;(exact aZ rfl rfl rfl);(exact a6 rfl rfl rfl rfl rfl rfl rfl rfl (by as_aux_lemma=>kernel_rfl) rfl);(focus ((apply aA 11 rfl (by as_aux_lemma=>kernel_rfl) rfl rfl;(exact a6 rfl rfl rfl rfl rfl rfl rfl rfl (by as_aux_lemma=>kernel_rfl) rfl));(apply aA 12 rfl (by as_aux_lemma=>kernel_rfl) rfl rfl;(exact ag rfl rfl));(refine aY (by as_aux_lemma=>kernel_rfl) ?_;exact aL (Wk.of ⟨rfl,rfl,rfl,rfl,rfl,rfl,rfl,trivial⟩ ⟨rfl,rfl,rfl,rfl,rfl,rfl,trivial⟩ trivial))));(focus ((apply aA 9 rfl (by as_aux_lemma=>kernel_rfl) rfl rfl;(exact aZ rfl rfl rfl));(apply aA 12 rfl (by as_aux_lemma=>kernel_rfl) rfl rfl;(exact ag rfl rfl));(refine aY (by as_aux_lemma=>kernel_rfl) ?_;exact aL (Wk.of ⟨rfl,rfl,rfl,rfl,rfl,rfl,rfl,trivial⟩ ⟨rfl,rfl,rfl,rfl,rfl,rfl,trivial⟩ trivial)))))));(focus ((apply aA 8 rfl (by as_aux_lemma=>kernel_rfl) rfl rfl;(exact aZ rfl rfl rfl));(apply aA 11 rfl (by as_aux_lemma=>kernel_rfl) rfl rfl;(exact a6 rfl rfl rfl rfl rfl rfl rfl rfl (by as_aux_lemma=>kernel_rfl) rfl));(apply aA 12 rfl (by as_aux_lemma=>kernel_rfl) rfl rfl;(exact ag rfl rfl));(refine aY (by as_aux_lemma=>kernel_rfl) ?_;exact aL (Wk.of ⟨rfl,rfl,rfl,rfl,rfl,rfl,rfl,trivial⟩ ⟨rfl,rfl,rfl,rfl,rfl,rfl,trivial⟩ trivial))))))
    have hmN:=k1.len
    (refine ai ?_;refine ah ?_;refine ab ?_;apply aa rfl;(exact a3 rfl rfl rfl rfl rfl rfl (by as_aux_lemma=>kernel_rfl));apply aa rfl;(exact a6 rfl rfl rfl rfl rfl rfl rfl rfl (by as_aux_lemma=>kernel_rfl) rfl);refine aj ?_;refine ai ?_;refine ah ?_;refine ab ?_;apply aa rfl;(exact ae rfl rfl);apply aa rfl;(exact ag rfl rfl);refine aj ?_;refine ai ?_;refine ah ?_;refine ab ?_;apply aa rfl;(exact aE (d:=2) rfl rfl rfl (by as_aux_lemma=>kernel_rfl));apply aa rfl;(exact aQ rfl (by as_aux_lemma=>kernel_rfl) rfl rfl rfl rfl);refine aj ?_;refine ai ?_)
    by_cases hb':b'=true
    ·subst hb'
     have hx:C=(M',N',true):=by
      rw [←hC];unfold cu
      rw [hgl]
      dsimp only
      have e:fO ng (im,less,false,c) (W.map Int.toNat).dropLast=(M',N',true,d'):=by
       have e1:(W.map Int.toNat).dropLast=(W.map Int.toNat).take (j + 1) ++ ((W.map Int.toNat).take (k - 1)).drop (j + 1):=by
        rw [List.dropLast_eq_take,List.length_map,hk]
        conv=>lhs;rw [←List.take_append_drop (j + 1) ((W.map Int.toNat).take (k - 1))]
        rw [List.take_take,show min (j + 1) (k - 1)=j + 1 by omega]
       rw [e1,kB,hgo',fQ rfl]
      rw [e]
      rfl
     subst hx
     refine au rfl (fun _=> ?_) (fun e=>by cases e)
     (refine ah ?_;refine ab ?_;apply aa rfl;(exact a3 rfl rfl rfl rfl rfl rfl (by as_aux_lemma=>kernel_rfl));apply aa rfl;(exact a6 rfl rfl rfl rfl rfl rfl rfl rfl (by as_aux_lemma=>kernel_rfl) rfl);refine aj ?_;refine ai ?_;refine aW ?_;refine bj ?_;refine aT ?_;refine aT ?_;refine bj ?_;refine aT ?_)
     exact bd (.inl rfl) rfl (.cell rfl rfl rfl rfl rfl (by kernel_rfl)) ⟨rfl,rfl,trivial⟩ trivial
    ·have hb':b'=false:=by simpa using hb'
     subst hb'
     refine au rfl (fun e=>by cases e) (fun _=> ?_)
     (refine aI ?_;refine aK ?_;refine ai ?_;refine ab ?_;apply aa rfl;(exact ae rfl rfl);apply aa rfl;(exact aR rfl rfl rfl (by first | exact IntWalk.i64_in _ (by omega) | rfl));apply aa rfl;(exact ag rfl rfl);refine aj ?_)
     exact aX (j + 1,(M',N',false,d')) ⟨by omega,rfl,hgo',⟨k1,Nat.le_trans hlo k2,k3,k4⟩⟩ (by show k - (j + 1) < k - j;omega) (Wk.of ⟨rfl,rfl,rfl,rfl,rfl,rfl,trivial⟩ ⟨rfl,rfl,rfl,rfl,rfl,trivial⟩ trivial)
   ·refine c7 (St.of [(1,vv (I6 c)),(2,o1 (.esl 1002 i 0 k)),(3,o1 (.ptr 3 0)),(6,o1 (.ptr 6 0)),(8,vv (I6 j)),(9,o1 (.ptr 9 0)),(10,vv (I6 d'))] [(1000,cz M'),(1001,bw N'),(1002,aV wss),(3,⟨true,72,3, .flat [.any, .any, .val (.bool false)]⟩),(6,⟨true,72,3, .flat [.val (.slice none 0 0), .val (.slice none 0 0), .val (.bool false)]⟩),(9,⟨true,72,3, .flat [.sl 1000 0 N'.length, .sl 1001 0 N'.length, .val (.bool b')]⟩)]) ?_ ?_
    ·((apply bL 6 10 rfl (by as_aux_lemma=>kernel_rfl) rfl rfl rfl rfl;(apply ak 71;exact ct [] hN (by as_aux_lemma=>kernel_rfl) rfl rfl ⟨⟨.inl rfl, .inl rfl, .inl rfl,trivial⟩,rfl,Bd (by omega),trivial⟩ ⟨⟨_,rfl, .inl rfl⟩,⟨_,rfl, .inl rfl⟩,trivial⟩ trivial rfl rfl);(exact b7 [.slice none 0 0, .slice none 0 0, .bool false] rfl (by as_aux_lemma=>kernel_rfl));(focus ((apply bL 7 10 rfl (by as_aux_lemma=>kernel_rfl) rfl rfl rfl rfl;(exact ae rfl rfl);(exact b7 [.slice none 0 0, .slice none 0 0, .bool false] rfl (by as_aux_lemma=>kernel_rfl));(focus ((apply jO 8 9 10 rfl (by as_aux_lemma=>kernel_rfl) rfl rfl rfl rfl rfl rfl;(exact aZ rfl rfl rfl);(exact aZ rfl rfl rfl);(exact b7 [.slice none 0 0, .slice none 0 0, .bool false] rfl (by as_aux_lemma=>kernel_rfl));(focus ((apply bL 9 10 rfl (by as_aux_lemma=>kernel_rfl) rfl rfl rfl rfl;(exact aZ rfl rfl rfl);(exact b7 [.slice none 0 0, .slice none 0 0, .bool false] rfl (by as_aux_lemma=>kernel_rfl));(focus ((apply aA 10 rfl (by as_aux_lemma=>kernel_rfl) rfl rfl;(exact b7 [.slice none 0 0, .slice none 0 0, .bool false] rfl (by as_aux_lemma=>kernel_rfl)));(apply aA 11 rfl (by as_aux_lemma=>kernel_rfl) rfl rfl;(exact a6 rfl rfl rfl rfl rfl rfl rfl rfl (by as_aux_lemma=>kernel_rfl) rfl));(apply aA 12 rfl (by as_aux_lemma=>kernel_rfl) rfl rfl;(exact ag rfl rfl));(refine aY (by as_aux_lemma=>kernel_rfl) ?_;exact aL (Wk.of ⟨rfl,rfl,rfl,rfl,rfl,rfl,rfl,trivial⟩ ⟨rfl,rfl,rfl,rfl,rfl,rfl,trivial⟩ trivial))));(focus ((apply bL 9 11 rfl (by as_aux_lemma=>kernel_rfl) rfl rfl rfl rfl;(exact aZ rfl rfl rfl);(exact a6 rfl rfl rfl rfl rfl rfl rfl rfl (by as_aux_lemma=>kernel_rfl) rfl);(focus ((apply aA 11 rfl (by as_aux_lemma=>kernel_rfl) rfl rfl;(exact a6 rfl rfl rfl rfl rfl rfl rfl rfl (by as_aux_lemma=>kernel_rfl) rfl));(apply aA 12 rfl (by as_aux_lemma=>kernel_rfl) rfl rfl;(exact ag rfl rfl));(refine aY (by as_aux_lemma=>kernel_rfl) ?_;exact aL (Wk.of ⟨rfl,rfl,rfl,rfl,rfl,rfl,rfl,trivial⟩ ⟨rfl,rfl,rfl,rfl,rfl,rfl,trivial⟩ trivial))));(focus ((apply aA 9 rfl (by as_aux_lemma=>kernel_rfl) rfl rfl;(exact aZ rfl rfl rfl));(apply aA 12 rfl (by as_aux_lemma=>kernel_rfl) rfl rfl;(exact ag rfl rfl));(refine aY (by as_aux_lemma=>kernel_rfl) ?_;exact aL (Wk.of ⟨rfl,rfl,rfl,rfl,rfl,rfl,rfl,trivial⟩ ⟨rfl,rfl,rfl,rfl,rfl,rfl,trivial⟩ trivial))))))))));(focus ((apply bL 8 10 rfl (by as_aux_lemma=>kernel_rfl) rfl rfl rfl rfl;(exact aZ rfl rfl rfl);(exact b7 [.slice none 0 0, .slice none 0 0, .bool false] rfl (by as_aux_lemma=>kernel_rfl));(focus ((apply aA 10 rfl (by as_aux_lemma=>kernel_rfl) rfl rfl;(exact b7 [.slice none 0 0, .slice none 0 0, .bool false] rfl (by as_aux_lemma=>kernel_rfl)));(apply aA 11 rfl (by as_aux_lemma=>kernel_rfl) rfl rfl;(exact a6 rfl rfl rfl rfl rfl rfl rfl rfl (by as_aux_lemma=>kernel_rfl) rfl));(apply aA 12 rfl (by as_aux_lemma=>kernel_rfl) rfl rfl;(exact ag rfl rfl));(refine aY (by as_aux_lemma=>kernel_rfl) ?_;exact aL (Wk.of ⟨rfl,rfl,rfl,rfl,rfl,rfl,rfl,trivial⟩ ⟨rfl,rfl,rfl,rfl,rfl,rfl,trivial⟩ trivial))));(focus ((apply aA 8 rfl (by as_aux_lemma=>kernel_rfl) rfl rfl;(exact aZ rfl rfl rfl));(apply aA 11 rfl (by as_aux_lemma=>kernel_rfl) rfl rfl;(exact a6 rfl rfl rfl rfl rfl rfl rfl rfl (by as_aux_lemma=>kernel_rfl) rfl));(apply aA 12 rfl (by as_aux_lemma=>kernel_rfl) rfl rfl;(exact ag rfl rfl));(refine aY (by as_aux_lemma=>kernel_rfl) ?_;exact aL (Wk.of ⟨rfl,rfl,rfl,rfl,rfl,rfl,rfl,trivial⟩ ⟨rfl,rfl,rfl,rfl,rfl,rfl,trivial⟩ trivial)))))));(focus ((apply bL 8 9 rfl (by as_aux_lemma=>kernel_rfl) rfl rfl rfl rfl;(exact aZ rfl rfl rfl);(exact aZ rfl rfl rfl);(focus ((apply bL 9 11 rfl (by as_aux_lemma=>kernel_rfl) rfl rfl rfl rfl;(exact aZ rfl rfl rfl);(exact a6 rfl rfl rfl rfl rfl rfl rfl rfl (by as_aux_lemma=>kernel_rfl) rfl);(focus ((apply aA 11 rfl (by as_aux_lemma=>kernel_rfl) rfl rfl;(exact a6 rfl rfl rfl rfl rfl rfl rfl rfl (by as_aux_lemma=>kernel_rfl) rfl));(apply aA 12 rfl (by as_aux_lemma=>kernel_rfl) rfl rfl;(exact ag rfl rfl));(refine aY (by as_aux_lemma=>kernel_rfl) ?_;exact aL (Wk.of ⟨rfl,rfl,rfl,rfl,rfl,rfl,rfl,trivial⟩ ⟨rfl,rfl,rfl,rfl,rfl,rfl,trivial⟩ trivial))));(focus ((apply aA 9 rfl (by as_aux_lemma=>kernel_rfl) rfl rfl;(exact aZ rfl rfl rfl));(apply aA 12 rfl (by as_aux_lemma=>kernel_rfl) rfl rfl;(exact ag rfl rfl));(refine aY (by as_aux_lemma=>kernel_rfl) ?_;exact aL (Wk.of ⟨rfl,rfl,rfl,rfl,rfl,rfl,rfl,trivial⟩ ⟨rfl,rfl,rfl,rfl,rfl,rfl,trivial⟩ trivial)))))));(focus ((apply aA 8 rfl (by as_aux_lemma=>kernel_rfl) rfl rfl;(exact aZ rfl rfl rfl));(apply aA 11 rfl (by as_aux_lemma=>kernel_rfl) rfl rfl;(exact a6 rfl rfl rfl rfl rfl rfl rfl rfl (by as_aux_lemma=>kernel_rfl) rfl));(apply aA 12 rfl (by as_aux_lemma=>kernel_rfl) rfl rfl;(exact ag rfl rfl));(refine aY (by as_aux_lemma=>kernel_rfl) ?_;exact aL (Wk.of ⟨rfl,rfl,rfl,rfl,rfl,rfl,rfl,trivial⟩ ⟨rfl,rfl,rfl,rfl,rfl,rfl,trivial⟩ trivial))))))))));(focus ((apply aA 7 rfl (by as_aux_lemma=>kernel_rfl) rfl rfl;(exact ae rfl rfl));(apply bL 8 9 rfl (by as_aux_lemma=>kernel_rfl) rfl rfl rfl rfl;(exact aZ rfl rfl rfl);(exact aZ rfl rfl rfl);(focus ((apply bL 9 11 rfl (by as_aux_lemma=>kernel_rfl) rfl rfl rfl rfl;(exact aZ rfl rfl rfl);(exact a6 rfl rfl rfl rfl rfl rfl rfl rfl (by as_aux_lemma=>kernel_rfl) rfl);(focus ((apply aA 11 rfl (by as_aux_lemma=>kernel_rfl) rfl rfl;(exact a6 rfl rfl rfl rfl rfl rfl rfl rfl (by as_aux_lemma=>kernel_rfl) rfl));(apply aA 12 rfl (by as_aux_lemma=>kernel_rfl) rfl rfl;(exact ag rfl rfl));(refine aY (by as_aux_lemma=>kernel_rfl) ?_;exact aL (Wk.of ⟨rfl,rfl,rfl,rfl,rfl,rfl,rfl,trivial⟩ ⟨rfl,rfl,rfl,rfl,rfl,rfl,trivial⟩ trivial))));(focus ((apply aA 9 rfl (by as_aux_lemma=>kernel_rfl) rfl rfl;(exact aZ rfl rfl rfl));(apply aA 12 rfl (by as_aux_lemma=>kernel_rfl) rfl rfl;(exact ag rfl rfl));(refine aY (by as_aux_lemma=>kernel_rfl) ?_;exact aL (Wk.of ⟨rfl,rfl,rfl,rfl,rfl,rfl,rfl,trivial⟩ ⟨rfl,rfl,rfl,rfl,rfl,rfl,trivial⟩ trivial)))))));(focus ((apply aA 8 rfl (by as_aux_lemma=>kernel_rfl) rfl rfl;(exact aZ rfl rfl rfl));(apply aA 11 rfl (by as_aux_lemma=>kernel_rfl) rfl rfl;(exact a6 rfl rfl rfl rfl rfl rfl rfl rfl (by as_aux_lemma=>kernel_rfl) rfl));(apply aA 12 rfl (by as_aux_lemma=>kernel_rfl) rfl rfl;(exact ag rfl rfl));(refine aY (by as_aux_lemma=>kernel_rfl) ?_;exact aL (Wk.of ⟨rfl,rfl,rfl,rfl,rfl,rfl,rfl,trivial⟩ ⟨rfl,rfl,rfl,rfl,rfl,rfl,trivial⟩ trivial))))))))));(focus ((apply aA 6 rfl (by as_aux_lemma=>kernel_rfl) rfl rfl;(apply ak 71;exact ct [] hN (by as_aux_lemma=>kernel_rfl) rfl rfl ⟨⟨.inl rfl, .inl rfl, .inl rfl,trivial⟩,rfl,Bd (by omega),trivial⟩ ⟨⟨_,rfl, .inl rfl⟩,⟨_,rfl, .inl rfl⟩,trivial⟩ trivial rfl rfl));(apply aA 7 rfl (by as_aux_lemma=>kernel_rfl) rfl rfl;(exact ae rfl rfl));(apply bL 8 9 rfl (by as_aux_lemma=>kernel_rfl) rfl rfl rfl rfl;(exact aZ rfl rfl rfl);(exact aZ rfl rfl rfl);(focus ((apply bL 9 11 rfl (by as_aux_lemma=>kernel_rfl) rfl rfl rfl rfl;(exact aZ rfl rfl rfl);(exact a6 rfl rfl rfl rfl rfl rfl rfl rfl (by as_aux_lemma=>kernel_rfl) rfl);(focus ((apply aA 11 rfl (by as_aux_lemma=>kernel_rfl) rfl rfl;(exact a6 rfl rfl rfl rfl rfl rfl rfl rfl (by as_aux_lemma=>kernel_rfl) rfl));(apply aA 12 rfl (by as_aux_lemma=>kernel_rfl) rfl rfl;(exact ag rfl rfl));(refine aY (by as_aux_lemma=>kernel_rfl) ?_;exact aL (Wk.of ⟨rfl,rfl,rfl,rfl,rfl,rfl,rfl,trivial⟩ ⟨rfl,rfl,rfl,rfl,rfl,rfl,trivial⟩ trivial))));(focus ((apply aA 9 rfl (by as_aux_lemma=>kernel_rfl) rfl rfl;(exact aZ rfl rfl rfl));(apply aA 12 rfl (by as_aux_lemma=>kernel_rfl) rfl rfl;(exact ag rfl rfl));(refine aY (by as_aux_lemma=>kernel_rfl) ?_;exact aL (Wk.of ⟨rfl,rfl,rfl,rfl,rfl,rfl,rfl,trivial⟩ ⟨rfl,rfl,rfl,rfl,rfl,rfl,trivial⟩ trivial)))))));(focus ((apply aA 8 rfl (by as_aux_lemma=>kernel_rfl) rfl rfl;(exact aZ rfl rfl rfl));(apply aA 11 rfl (by as_aux_lemma=>kernel_rfl) rfl rfl;(exact a6 rfl rfl rfl rfl rfl rfl rfl rfl (by as_aux_lemma=>kernel_rfl) rfl));(apply aA 12 rfl (by as_aux_lemma=>kernel_rfl) rfl rfl;(exact ag rfl rfl));(refine aY (by as_aux_lemma=>kernel_rfl) ?_;exact aL (Wk.of ⟨rfl,rfl,rfl,rfl,rfl,rfl,rfl,trivial⟩ ⟨rfl,rfl,rfl,rfl,rfl,rfl,trivial⟩ trivial)))))))))
    have hmN:=k1.len
    (refine ai ?_;refine ah ?_;refine ab ?_;apply aa rfl;(exact a3 rfl rfl rfl rfl rfl rfl (by as_aux_lemma=>kernel_rfl));apply aa rfl;(exact a6 rfl rfl rfl rfl rfl rfl rfl rfl (by as_aux_lemma=>kernel_rfl) rfl);refine aj ?_;refine ai ?_;refine ah ?_;refine ab ?_;apply aa rfl;(exact ae rfl rfl);apply aa rfl;(exact ag rfl rfl);refine aj ?_;refine ai ?_;refine ah ?_;refine ab ?_;apply aa rfl;(exact aE (d:=2) rfl rfl rfl (by as_aux_lemma=>kernel_rfl));apply aa rfl;(exact aQ rfl (by as_aux_lemma=>kernel_rfl) rfl rfl rfl rfl);refine aj ?_;refine ai ?_)
    by_cases hb':b'=true
    ·subst hb'
     have hx:C=(M',N',true):=by
      rw [←hC];unfold cu
      rw [hgl]
      dsimp only
      have e:fO ng (im,less,false,c) (W.map Int.toNat).dropLast=(M',N',true,d'):=by
       have e1:(W.map Int.toNat).dropLast=(W.map Int.toNat).take (j + 1) ++ ((W.map Int.toNat).take (k - 1)).drop (j + 1):=by
        rw [List.dropLast_eq_take,List.length_map,hk]
        conv=>lhs;rw [←List.take_append_drop (j + 1) ((W.map Int.toNat).take (k - 1))]
        rw [List.take_take,show min (j + 1) (k - 1)=j + 1 by omega]
       rw [e1,kB,hgo',fQ rfl]
      rw [e]
      rfl
     subst hx
     refine au rfl (fun _=> ?_) (fun e=>by cases e)
     (refine ah ?_;refine ab ?_;apply aa rfl;(exact a3 rfl rfl rfl rfl rfl rfl (by as_aux_lemma=>kernel_rfl));apply aa rfl;(exact a6 rfl rfl rfl rfl rfl rfl rfl rfl (by as_aux_lemma=>kernel_rfl) rfl);refine aj ?_;refine ai ?_;refine aW ?_;refine bj ?_;refine aT ?_;refine aT ?_;refine bj ?_;refine aT ?_)
     exact bd (.inl rfl) rfl (.cell rfl rfl rfl rfl rfl (by kernel_rfl)) ⟨rfl,rfl,trivial⟩ trivial
    ·have hb':b'=false:=by simpa using hb'
     subst hb'
     refine au rfl (fun e=>by cases e) (fun _=> ?_)
     (refine aI ?_;refine aK ?_;refine ai ?_;refine ab ?_;apply aa rfl;(exact ae rfl rfl);apply aa rfl;(exact aR rfl rfl rfl (by first | exact IntWalk.i64_in _ (by omega) | rfl));apply aa rfl;(exact ag rfl rfl);refine aj ?_)
     exact aX (j + 1,(M',N',false,d')) ⟨by omega,rfl,hgo',⟨k1,Nat.le_trans hlo k2,k3,k4⟩⟩ (by show k - (j + 1) < k - j;omega) (Wk.of ⟨rfl,rfl,rfl,rfl,rfl,rfl,trivial⟩ ⟨rfl,rfl,rfl,rfl,rfl,trivial⟩ trivial)
  ·have hlt:¬((j:Int) + 1) < (k:Nat):=hlt
   obtain rfl:k=j + 1:=by omega
   have hgj:=hg (aC W j) (eF (by omega))
   have hgv:g=(aC W j).toNat:=by
    rw [List.getLast?_eq_getElem?,List.length_map,hk,Nat.add_sub_cancel] at hgl
    simp [cG (show j < W.length by omega),show j < W.length by omega] at hgl ⊢
    exact hgl.symm
   have hgn:g < ng:=by omega
   obtain ⟨z,hz⟩:∃z,aC W j=z:=⟨_,rfl⟩
   rw [hz] at hgj hgv
   have hzg:(g:Int)=z:=by omega
   have gW:(aJ W)[j]? =some (I6 g):=by rw [al (by omega),hz,hzg]
   have hCx:cu ng im less c (W.map Int.toNat)=C:=hC
   unfold cu at hCx
   rw [hgl] at hCx
   dsimp only at hCx
   have e:fO ng (im,less,false,c) (W.map Int.toNat).dropLast=(M,N,false,d):=by
    rw [List.dropLast_eq_take,List.length_map,hk];exact hgo
   rw [e] at hCx
   dsimp only at hCx
   rw [if_neg (by simp)] at hCx
   have hcN:c < N.length:=by omega
   have hrc:=hw1.row c (by omega)
   have hrd:=hw1.row d (by omega)
   have hF1:=gx M N N.length N.length d g false hm1 rfl hw1.down (by omega) (by omega) (hw1.bD d g (by omega) hgn)
   have hF2:=gx M N N.length N.length c g false hm1 rfl hw1.down (by omega) (by omega) (hw1.bD c g (by omega) hgn)
   have i1:=dM hw1 hd hgn
   have i2:=dM hw1 hcN hgn
   obtain ⟨x,hx⟩:∃x,image M N d g=x:=⟨_,rfl⟩
   obtain ⟨y,hy⟩:∃y,image M N c g=y:=⟨_,rfl⟩
   rw [hx,hy] at hCx
   rw [hx] at hF1 i1
   rw [hy] at hF2 i2
   have hgw:aC W (((j + 1:Nat):Int) - 1).toNat=(g:Int):=by rw [show (((j + 1:Nat):Int) - 1).toNat=j by omega,hz,hzg]
   (refine a5 ?_;refine ax ?_;refine ax ?_;refine aM ?_;refine ai ?_;refine ah ?_;refine ab ?_;apply aa rfl;(exact ae rfl rfl);apply aa rfl;(exact ae rfl rfl);apply aa rfl;(exact a8 rfl rfl rfl (by as_aux_lemma=>kernel_rfl));apply aa rfl;(exact bJ rfl rfl rfl (by first | exact IntWalk.i64_in _ (by omega) | rfl));apply aa rfl;(exact aS rfl rfl rfl rfl rfl (by as_aux_lemma=>kernel_rfl) (by first | assumption | exact al (by assumption) | exact ar (by assumption) | exact al (by omega) | exact ar (by omega) | rfl) (by first | rfl | exact (Int.toNat_of_nonneg (by omega)).symm) (by first | assumption | omega | (simp;omega)) (by first | exact Nat.le_refl _ | exact Nat.le_of_eq (an _).symm | exact Nat.le_of_eq (aw _).symm | (refine Nat.le_trans ?_ (Nat.le_of_eq (an _).symm);(first | omega | (simp;done) | (simp;omega))) | (refine Nat.le_trans ?_ (Nat.le_of_eq (aw _).symm);(first | omega | (simp;done) | (simp;omega)))));apply aa rfl;(exact aN rfl (by as_aux_lemma=>kernel_rfl) rfl rfl rfl (by first | assumption | exact al (by assumption) | exact ar (by assumption) | exact al (by omega) | exact ar (by omega) | rfl) (by first | assumption | exact al (by assumption) | exact ar (by assumption) | exact al (by omega) | exact ar (by omega) | rfl));apply aa rfl;(exact ag rfl rfl);refine aj ?_;refine ai ?_;refine ah ?_)
   rw [hgw]
   apply dG 8 [] [[], [], [], [0,1,2], [], [], [], [0,1,2,3,4,5,6], [0,1,2,3,4,5,6,7], [0,1,2,3,4,5,6,7,8]] [47,48,49,50,51,52,53,54] [] (by kernel_rfl) (by kernel_rfl)
   ·(apply aF rfl;(intro S1 hS;exact a3 rfl (hS.op rfl) (hS.ch _ _ rfl) rfl rfl rfl (by as_aux_lemma=>kernel_rfl));apply aF rfl;(intro S1 hS;exact ae rfl (hS.op rfl));apply aF rfl;(intro S1 hS;exact ae rfl (hS.op rfl));(apply aF rfl;(focus (intro S1 hS;apply ak 49;first | exact aq hF1 (by as_aux_lemma=>kernel_rfl) rfl (dx hS rfl) ⟨⟨.inl rfl, .inl rfl, .inl rfl,trivial⟩,rfl,rfl,trivial⟩ (cJ hS ⟨⟨_,rfl, .inr rfl⟩,⟨_,rfl, .inr rfl⟩,trivial⟩) rfl rfl | exact aq hF2 (by as_aux_lemma=>kernel_rfl) rfl (dx hS rfl) ⟨⟨.inl rfl, .inl rfl, .inl rfl,trivial⟩,rfl,rfl,trivial⟩ (cJ hS ⟨⟨_,rfl, .inr rfl⟩,⟨_,rfl, .inr rfl⟩,trivial⟩) rfl rfl)));apply aF rfl;(intro S1 hS;exact a3 rfl (hS.op rfl) (hS.ch _ _ rfl) rfl rfl rfl (by as_aux_lemma=>kernel_rfl));apply aF rfl;(intro S1 hS;exact ae rfl (hS.op rfl));apply aF rfl;(intro S1 hS;exact ae rfl (hS.op rfl));(apply aF rfl;(focus (intro S1 hS;apply ak 49;first | exact aq hF1 (by as_aux_lemma=>kernel_rfl) rfl (dx hS rfl) ⟨⟨.inl rfl, .inl rfl, .inl rfl,trivial⟩,rfl,rfl,trivial⟩ (cJ hS ⟨⟨_,rfl, .inr rfl⟩,⟨_,rfl, .inr rfl⟩,trivial⟩) rfl rfl | exact aq hF2 (by as_aux_lemma=>kernel_rfl) rfl (dx hS rfl) ⟨⟨.inl rfl, .inl rfl, .inl rfl,trivial⟩,rfl,rfl,trivial⟩ (cJ hS ⟨⟨_,rfl, .inr rfl⟩,⟨_,rfl, .inr rfl⟩,trivial⟩) rfl rfl)));exact ey.nil)
   ·rfl
   ((apply aA 8 rfl (by as_aux_lemma=>kernel_rfl) rfl rfl;(exact ag rfl rfl));(apply aA 9 rfl (by as_aux_lemma=>kernel_rfl) rfl rfl;(exact ag rfl rfl));(refine aY (by as_aux_lemma=>kernel_rfl) ?_;skip))
   (refine ai ?_;refine ah ?_;refine aB ?_;refine ah ?_;refine ab ?_;apply aa rfl;(exact ae rfl rfl);apply aa rfl;(exact aD rfl rfl rfl rfl);apply aa rfl;(exact ag rfl rfl);refine aj ?_;refine ai ?_)
   refine bF rfl (fun hx0=> ?_) (fun hx0=> ?_)
   ·have hx0:0≤x:=hx0
    rw [if_pos hx0] at hCx
    have hI:=kh ng N.length M N x.toNat c false rfl hw1 (by omega) hcN hhi hng
    rw [Int.toNat_of_nonneg hx0] at hI
    subst hCx
    have hln:=(gv (q:= [(x,(c:Int))]) hw1 rfl (fun p hp=>by simp at hp;subst hp;exact ⟨⟨hx0,i1⟩,by omega,by dsimp only;omega⟩)).2
    dsimp only
    rw [hln]
    (refine ah ?_;refine ab ?_;apply aa rfl;(exact a3 rfl rfl rfl rfl rfl rfl (by as_aux_lemma=>kernel_rfl));apply aa rfl;(exact ae rfl rfl);apply aa rfl;(exact ae rfl rfl);apply aa rfl;(apply ak 82;exact ct [] hI (by as_aux_lemma=>kernel_rfl) rfl rfl ⟨⟨.inl rfl, .inl rfl, .inl rfl,trivial⟩,rfl,rfl,trivial⟩ ⟨⟨_,rfl, .inl rfl⟩,⟨_,rfl, .inl rfl⟩,trivial⟩ trivial rfl rfl);apply aa rfl;(exact a6 rfl rfl rfl rfl rfl rfl rfl rfl (by as_aux_lemma=>kernel_rfl) rfl);refine aj ?_;refine ai ?_;refine aW ?_;refine bj ?_;refine aT ?_)
    exact bd (.inl rfl) rfl (.cell rfl rfl rfl rfl rfl (by kernel_rfl)) ⟨rfl,rfl,trivial⟩ trivial
   ·have hx0:¬0≤x:=hx0
    rw [if_neg hx0] at hCx
    (refine ah ?_;refine ab ?_;apply aa rfl;(exact ae rfl rfl);apply aa rfl;(exact aD rfl rfl rfl rfl);apply aa rfl;(exact ag rfl rfl);refine aj ?_;refine ai ?_)
    refine bF rfl (fun hy0=> ?_) (fun hy0=> ?_)
    ·have hy0:0≤y:=hy0
     rw [if_pos hy0] at hCx
     have hI:=kh ng N.length M N y.toNat d false rfl hw1 (by omega) hd hhi hng
     rw [Int.toNat_of_nonneg hy0] at hI
     subst hCx
     have hln:=(gv (q:= [(y,(d:Int))]) hw1 rfl (fun p hp=>by simp at hp;subst hp;exact ⟨⟨hy0,i2⟩,by omega,by dsimp only;omega⟩)).2
     dsimp only
     rw [hln]
     (refine ah ?_;refine ab ?_;apply aa rfl;(exact a3 rfl rfl rfl rfl rfl rfl (by as_aux_lemma=>kernel_rfl));apply aa rfl;(exact ae rfl rfl);apply aa rfl;(exact ae rfl rfl);apply aa rfl;(apply ak 82;exact ct [] hI (by as_aux_lemma=>kernel_rfl) rfl rfl ⟨⟨.inl rfl, .inl rfl, .inl rfl,trivial⟩,rfl,rfl,trivial⟩ ⟨⟨_,rfl, .inl rfl⟩,⟨_,rfl, .inl rfl⟩,trivial⟩ trivial rfl rfl);apply aa rfl;(exact a6 rfl rfl rfl rfl rfl rfl rfl rfl (by as_aux_lemma=>kernel_rfl) rfl);refine aj ?_;refine ai ?_;refine aW ?_;refine bj ?_;refine aT ?_)
     exact bd (.inl rfl) rfl (.cell rfl rfl rfl rfl rfl (by kernel_rfl)) ⟨rfl,rfl,trivial⟩ trivial
    ·have hy0:¬0≤y:=hy0
     rw [if_neg hy0] at hCx
     subst hCx
     dsimp only
     have hr2:(bu (dq M d g c) c).length=ng:=by rw [gp];exact hrc
     have hl2:(dq M d g c).length=N.length:=by rw [cU];exact hm1
     (refine aI ?_;refine aK ?_;refine ai ?_;refine ah ?_;refine ab ?_;apply aa rfl;(exact aE (d:=0) rfl rfl rfl (by as_aux_lemma=>kernel_rfl));apply aa rfl;(exact aQ rfl (by as_aux_lemma=>kernel_rfl) rfl rfl rfl rfl);apply aa rfl;(exact ae rfl rfl);apply aa rfl;(exact aU rfl rfl rfl rfl rfl (by as_aux_lemma=>kernel_rfl) (by first | rfl | exact (Int.toNat_of_nonneg (by omega)).symm) (by first | assumption | omega | (simp;omega)) (by first | exact Nat.le_refl _ | exact Nat.le_of_eq (an _).symm | exact Nat.le_of_eq (aw _).symm | (refine Nat.le_trans ?_ (Nat.le_of_eq (an _).symm);(first | omega | (simp;done) | (simp;omega))) | (refine Nat.le_trans ?_ (Nat.le_of_eq (aw _).symm);(first | omega | (simp;done) | (simp;omega)))));apply aa rfl;(exact bo rfl (by as_aux_lemma=>kernel_rfl) rfl rfl rfl (by first | assumption | exact al (by assumption) | exact ar (by assumption) | exact al (by omega) | exact ar (by omega) | rfl) (by first | exact an _ | assumption | rfl));apply aa rfl;(exact ae rfl rfl);apply aa rfl;(exact ae rfl rfl);apply aa rfl;(exact aS rfl rfl rfl rfl rfl (by as_aux_lemma=>kernel_rfl) (by first | assumption | exact al (by assumption) | exact ar (by assumption) | exact al (by omega) | exact ar (by omega) | rfl) (by first | rfl | exact (Int.toNat_of_nonneg (by omega)).symm) (by first | assumption | omega | (simp;omega)) (by first | exact Nat.le_refl _ | exact Nat.le_of_eq (an _).symm | exact Nat.le_of_eq (aw _).symm | (refine Nat.le_trans ?_ (Nat.le_of_eq (an _).symm);(first | omega | (simp;done) | (simp;omega))) | (refine Nat.le_trans ?_ (Nat.le_of_eq (aw _).symm);(first | omega | (simp;done) | (simp;omega)))));apply aa rfl;(exact bT rfl rfl rfl rfl rfl (by first | assumption | omega | (simp;omega)) (by first | assumption | omega | (simp;omega)) (by as_aux_lemma=>kernel_rfl));refine aj ?_;refine ai ?_;refine ah ?_;refine ab ?_;apply aa rfl;(exact aE (d:=0) rfl rfl rfl (by as_aux_lemma=>kernel_rfl));apply aa rfl;(exact aQ rfl (by as_aux_lemma=>kernel_rfl) rfl rfl rfl rfl);apply aa rfl;(exact ae rfl rfl);apply aa rfl;(exact aU rfl rfl rfl rfl rfl (by as_aux_lemma=>kernel_rfl) (by first | rfl | exact (Int.toNat_of_nonneg (by omega)).symm) (by first | assumption | omega | (simp;omega)) (by first | exact Nat.le_refl _ | exact Nat.le_of_eq (an _).symm | exact Nat.le_of_eq (aw _).symm | (refine Nat.le_trans ?_ (Nat.le_of_eq (an _).symm);(first | omega | (simp;done) | (simp;omega))) | (refine Nat.le_trans ?_ (Nat.le_of_eq (aw _).symm);(first | omega | (simp;done) | (simp;omega)))));apply aa rfl;(exact bo rfl (by as_aux_lemma=>kernel_rfl) rfl rfl rfl (by first | assumption | exact al (by assumption) | exact ar (by assumption) | exact al (by omega) | exact ar (by omega) | rfl) (by first | exact an _ | assumption | rfl));apply aa rfl;(exact ae rfl rfl);apply aa rfl;(exact ae rfl rfl);apply aa rfl;(exact aS rfl rfl rfl rfl rfl (by as_aux_lemma=>kernel_rfl) (by first | assumption | exact al (by assumption) | exact ar (by assumption) | exact al (by omega) | exact ar (by omega) | rfl) (by first | rfl | exact (Int.toNat_of_nonneg (by omega)).symm) (by first | assumption | omega | (simp;omega)) (by first | exact Nat.le_refl _ | exact Nat.le_of_eq (an _).symm | exact Nat.le_of_eq (aw _).symm | (refine Nat.le_trans ?_ (Nat.le_of_eq (an _).symm);(first | omega | (simp;done) | (simp;omega))) | (refine Nat.le_trans ?_ (Nat.le_of_eq (aw _).symm);(first | omega | (simp;done) | (simp;omega)))));apply aa rfl;(exact bT rfl rfl rfl rfl rfl (by first | assumption | omega | (simp;omega)) (by first | assumption | omega | (simp;omega)) (by as_aux_lemma=>kernel_rfl));refine aj ?_;refine ai ?_;refine ah ?_;refine ab ?_;apply aa rfl;(exact a3 rfl rfl rfl rfl rfl rfl (by as_aux_lemma=>kernel_rfl));apply aa rfl;(exact a6 rfl rfl rfl rfl rfl rfl rfl rfl (by as_aux_lemma=>kernel_rfl) rfl);refine aj ?_;refine ai ?_;refine aW ?_)
     exact bd (.inl rfl) rfl (.cell rfl rfl rfl rfl rfl (by kernel_rfl)) ⟨rfl,rfl,trivial⟩ trivial
end Go.Proofs.Ytekbhbcgoadciaa
namespace Go.Proofs.Ytekbhbcgoadciaa
open Go.RowKit
set_option maxRecDepth 100000 in
set_option maxHeartbeats 4000000 in
theorem qx (ng:Nat) (rels words:List (List Int)) (R m:Nat) (hR:rels.length=R) (hm:words.length=m) (hr:∀w∈rels,a9 ng w) (hw:∀w∈words,a9 ng w) (hng:ng≤1000) (hrl:∀w∈rels,w.length≤1000000000) (hwl:∀w∈words,w.length≤1000000000) (hR2:R≤1000000000) (hm2:m≤1000000000) (X:dc) (hX:cB ng rels words=X):
  FC Try.prog 48 [(1002,aV words),(1003,aV rels)] [.s (.agg [.val (I6 ng), .sl 1003 0 R]),o1 (.sl 1002 0 m)] [(1000,cz X.1),(1001,bw X.2.1)]
   (.s (.agg [.sl 1000 0 X.2.1.length, .sl 1001 0 X.2.1.length, .val (.bool X.2.2)])) []:=by
 refine bc (nt:=107) Try.func48 rfl rfl (by simp) fun w0 ω0=> ?_
 (refine ah ?_;refine ab ?_;apply aa rfl;(exact cS rfl rfl rfl rfl);apply aa rfl;(exact b7 [.slice none 0 0, .slice none 0 0, .bool false] rfl (by as_aux_lemma=>kernel_rfl));refine aj ?_;refine ai ?_;refine ah ?_;refine ab ?_;apply aa rfl;(exact uR [.slice none 0 0, .slice none 0 0, .bool false] rfl (by as_aux_lemma=>kernel_rfl));apply aa rfl;(exact aE (d:=0) rfl rfl rfl (by as_aux_lemma=>kernel_rfl));apply aa rfl;(exact aQ rfl (by as_aux_lemma=>kernel_rfl) rfl rfl rfl rfl))
 refine vr (vH (t:=14) (n:=1000) (k:=1) (E:=24) (d:= .rows 2 (bK []) []) 0 rfl rfl rfl rfl) ?_
 refine vr (vH (t:=14) (n:=1001) (k:=1) (E:=2) (d:= .bG (aJ [])) 1 rfl rfl rfl rfl) ?_
 have hD:=lT [] [] 0 0 ng false rfl rfl (by simp) hng (by simp)
 (apply aa rfl;(apply ak 69;exact ct [] hD (by as_aux_lemma=>kernel_rfl) rfl rfl ⟨⟨.inl rfl, .inl rfl, .inl rfl,trivial⟩,rfl,trivial⟩ ⟨⟨_,rfl, .inl rfl⟩,⟨_,rfl, .inl rfl⟩,trivial⟩ trivial rfl rfl);apply aa rfl;(exact ae rfl rfl);apply aa rfl;(exact aZ rfl rfl rfl);apply aa rfl;(exact aZ rfl rfl rfl);apply aa rfl;(exact b7 [.slice none 0 0, .slice none 0 0, .bool false] rfl (by as_aux_lemma=>kernel_rfl));apply aa rfl;(exact a6 rfl rfl rfl rfl rfl rfl rfl rfl (by as_aux_lemma=>kernel_rfl) rfl);apply aa rfl;(exact ag rfl rfl);refine aj ?_;refine ai ?_;refine ah ?_;refine ah ?_;refine ab ?_;apply aa rfl;(exact ag rfl rfl);refine aj ?_;refine ai ?_;refine aB ?_)
 refine bl (fun j:Nat×dc=>St.of [(1,o1 (.sl 1002 0 m)),(2,o1 (.ptr 2 0)),(4,o1 (.ptr 4 0)),(5,o1 (.ptr 5 0)),(7,vv (I6 j.1))] [(1000,cz j.2.1),(1001,bw j.2.2.1),(1002,aV words),(1003,aV rels),(2,⟨true,32,2, .flat [.val (I6 ng), .sl 1003 0 R]⟩),(4,⟨true,72,3, .flat [.val (.slice none 0 0), .val (.slice none 0 0), .val (.bool false)]⟩),(5,⟨true,72,3, .flat [.sl 1000 0 j.2.2.1.length, .sl 1001 0 j.2.2.1.length, .val (.bool j.2.2.2)]⟩)])
  (fun j=>j.1≤m∧(words.take j.1).foldl (cW ng) (c6 ng)=j.2∧bO ng 1 j.2) (fun j=>m - j.1) (0,c6 ng) ⟨Nat.zero_le _,rfl,gS ng⟩ (Wk.of ⟨rfl,rfl,rfl,rfl,rfl,trivial⟩ ⟨rfl,rfl,rfl,rfl,rfl,rfl,rfl,trivial⟩ trivial) ?_
 rintro ⟨j,M,N,b⟩ ⟨hj,hfo,hok⟩
 dsimp only at hj hfo ⊢
 repeat refine ah ?_
 refine cg (St.of [(1,o1 (.sl 1002 0 m)),(2,o1 (.ptr 2 0)),(4,o1 (.ptr 4 0)),(5,o1 (.ptr 5 0)),(7,vv (I6 j)),(28,vv (.bool (decide ((j:Int) < m) && !b)))] [(1000,cz M),(1001,bw N),(1002,aV words),(1003,aV rels),(2,⟨true,32,2, .flat [.val (I6 ng), .sl 1003 0 R]⟩),(4,⟨true,72,3, .flat [.val (.slice none 0 0), .val (.slice none 0 0), .val (.bool false)]⟩),(5,⟨true,72,3, .flat [.sl 1000 0 N.length, .sl 1001 0 N.length, .val (.bool b)]⟩)]) ?_ ?_
 ·(refine ab ?_;apply aa rfl;(exact ae rfl rfl);apply aa rfl;(exact ae rfl rfl);apply aa rfl;(exact a8 rfl rfl rfl (by as_aux_lemma=>kernel_rfl));apply aa rfl;(exact aD rfl rfl rfl rfl);apply aa rfl;(exact ae rfl rfl))
  refine bH 24 rfl (fun h=> ?_) (fun h=> ?_)
  ·(apply aH rfl rfl rfl;(exact aE (d:=2) rfl rfl rfl (by as_aux_lemma=>kernel_rfl));apply aH rfl rfl rfl;(exact aQ rfl (by as_aux_lemma=>kernel_rfl) rfl rfl rfl rfl);apply aH rfl rfl rfl;(exact cV rfl rfl);apply aa rfl;(exact bf rfl rfl rfl);refine aj ?_)
   exact aL (Wk.of ⟨rfl,rfl,rfl,rfl,rfl,by rw [h];rfl,trivial⟩ ⟨rfl,rfl,rfl,rfl,rfl,rfl,rfl,trivial⟩ trivial)
  ·(apply aG rfl rfl rfl rfl rfl;apply aG rfl rfl rfl rfl rfl;apply aG rfl rfl rfl rfl rfl;apply aa rfl;(exact br rfl rfl rfl);refine aj ?_)
   exact aL (Wk.of ⟨rfl,rfl,rfl,rfl,rfl,by rw [h];rfl,trivial⟩ ⟨rfl,rfl,rfl,rfl,rfl,rfl,rfl,trivial⟩ trivial)
 (refine ai ?_)
 refine au rfl (fun hc=> ?_) (fun hc=> ?_)
 ·obtain ⟨hlt,rfl⟩:j < m∧b=false:=by
   simp at hc;exact ⟨by omega,hc.2⟩
  have hjw:j < words.length:=by omega
  obtain ⟨W,hW⟩:∃W,bu words j=W:=⟨_,rfl⟩
  have hWm:W∈words:=by rw [←hW];exact fD hjw
  obtain ⟨C,hC⟩:∃C,cu ng M N 0 (W.map Int.toNat)=C:=⟨_,rfl⟩
  have hN0:0 < N.length:=hok.lo
  have hcl:=m8 ng N.length M N 0 words j W.length W rfl hok.wf hN0 hok.hi hng hjw hW rfl (hwl W hWm) (hw W hWm) C hC
  have hfo':(words.take (j + 1)).foldl (cW ng) (c6 ng)=C:=by
   rw [gO hjw,List.foldl_append,hfo,hW];exact hC
  have hok':bO ng 1 C:=by
   have:=jo (w:=W) hok (by omega) (hw W hWm)
   unfold cW at this
   rw [if_neg (by simp)] at this
   rw [←hC];exact this
  have hrow:(bK words)[j]? =some (aJ W):=by rw [←hW];exact ar hjw
  (refine aI ?_;refine ai ?_;refine ah ?_;refine aB ?_)
  apply dG 5 [] [[], [], [], [1,2], [1,2,3], [0,1,2,3,4], [0,1,2,3,4,5]] [31,32,33,34,35] [] (by kernel_rfl) (by kernel_rfl)
  ·(apply aF rfl;(intro S1 hS;exact a3 rfl (hS.op rfl) (hS.ch _ _ rfl) rfl rfl rfl (by as_aux_lemma=>kernel_rfl));apply aF rfl;(intro S1 hS;exact ae rfl (hS.op rfl));apply aF rfl;(intro S1 hS;exact ae rfl (hS.op rfl));apply aF rfl;(intro S1 hS;exact aU rfl (hS.op rfl) (hS.op rfl) (hS.ch _ _ rfl) rfl (by as_aux_lemma=>kernel_rfl) (by first | rfl | exact (Int.toNat_of_nonneg (by omega)).symm) (by first | assumption | omega | (simp;omega)) (by first | exact Nat.le_refl _ | exact Nat.le_of_eq (an _).symm | exact Nat.le_of_eq (aw _).symm | (refine Nat.le_trans ?_ (Nat.le_of_eq (an _).symm);(first | omega | (simp;done) | (simp;omega))) | (refine Nat.le_trans ?_ (Nat.le_of_eq (aw _).symm);(first | omega | (simp;done) | (simp;omega)))));apply aF rfl;(intro S1 hS;exact bo rfl (by as_aux_lemma=>kernel_rfl) (hS.op rfl) (hS.ch _ _ rfl) rfl (by first | assumption | exact al (by assumption) | exact ar (by assumption) | exact al (by omega) | exact ar (by omega) | rfl) (by first | exact an _ | assumption | rfl));exact ey.nil)
  ·rfl
  ((apply aA 5 rfl (by as_aux_lemma=>kernel_rfl) rfl rfl;(apply ak 70;exact ct [] hcl (by as_aux_lemma=>kernel_rfl) rfl rfl ⟨⟨.inl rfl, .inl rfl, .inl rfl,trivial⟩,rfl,rfl,trivial⟩ ⟨⟨_,rfl, .inl rfl⟩,⟨_,rfl, .inl rfl⟩,⟨_,rfl, .inl rfl⟩,trivial⟩ trivial rfl rfl));(apply aA 6 rfl (by as_aux_lemma=>kernel_rfl) rfl rfl;(exact a6 rfl rfl rfl rfl rfl rfl rfl rfl (by as_aux_lemma=>kernel_rfl) rfl));(refine aY (by as_aux_lemma=>kernel_rfl) ?_;skip))
  (refine aK ?_;refine ai ?_;refine ab ?_;apply aa rfl;(exact ae rfl rfl);apply aa rfl;(exact aR rfl rfl rfl (by first | exact IntWalk.i64_in _ (by omega) | rfl));apply aa rfl;(exact ag rfl rfl);refine aj ?_)
  exact aX (j + 1,C) ⟨hlt,hfo',hok'⟩ (by show m - (j + 1) < m - j;omega) (Wk.of ⟨rfl,rfl,rfl,rfl,rfl,trivial⟩ ⟨rfl,rfl,rfl,rfl,rfl,rfl,rfl,trivial⟩ trivial)
 ·(refine a5 ?_;refine ax ?_;refine ax ?_;refine aM ?_;refine ai ?_;refine ah ?_;refine ah ?_;refine ab ?_;apply aa rfl;(exact ag rfl rfl);refine aj ?_;refine ai ?_;refine aB ?_)
  have hfw:words.foldl (cW ng) (c6 ng)=(M,N,b):=by
   by_cases hjm:j=m
   ·rw [←hfo,hjm,←hm,List.take_length]
   ·refine tV hfo ?_
    show b=true
    rw [decide_eq_true (show (j:Int) < m by omega)] at hc
    simpa using hc
  have hX0:outer ng rels 2001 0 (M,N,b)=X:=by rw [←hfw];exact hX
  refine bl (fun c:Nat×dc=>St.of [(1,o1 (.sl 1002 0 m)),(2,o1 (.ptr 2 0)),(4,o1 (.ptr 4 0)),(5,o1 (.ptr 5 0)),(8,vv (I6 c.1))] [(1000,cz c.2.1),(1001,bw c.2.2.1),(1002,aV words),(1003,aV rels),(2,⟨true,32,2, .flat [.val (I6 ng), .sl 1003 0 R]⟩),(4,⟨true,72,3, .flat [.val (.slice none 0 0), .val (.slice none 0 0), .val (.bool false)]⟩),(5,⟨true,72,3, .flat [.sl 1000 0 c.2.2.1.length, .sl 1001 0 c.2.2.1.length, .val (.bool c.2.2.2)]⟩)])
   (fun c=>outer ng rels (2001 - c.1) c.1 c.2=X∧c.1≤c.2.2.1.length∧bO ng 1 c.2) (fun c=>2001 - c.1) (0,(M,N,b)) ⟨hX0,Nat.zero_le _,hok⟩ (Wk.of ⟨rfl,rfl,rfl,rfl,rfl,trivial⟩ ⟨rfl,rfl,rfl,rfl,rfl,rfl,rfl,trivial⟩ trivial) ?_
  clear hfw hX0 hc hfo hok hj
  clear j M N b
  rintro ⟨c,M,N,b⟩ ⟨hout,hcl,hok⟩
  dsimp only at hout hcl ⊢
  have hNl:N.length≤2000:=hok.hi
  repeat refine ah ?_
  refine cg (St.of [(1,o1 (.sl 1002 0 m)),(2,o1 (.ptr 2 0)),(4,o1 (.ptr 4 0)),(5,o1 (.ptr 5 0)),(8,vv (I6 c)),(46,vv (.bool (decide ((c:Int) < N.length) && !b)))] [(1000,cz M),(1001,bw N),(1002,aV words),(1003,aV rels),(2,⟨true,32,2, .flat [.val (I6 ng), .sl 1003 0 R]⟩),(4,⟨true,72,3, .flat [.val (.slice none 0 0), .val (.slice none 0 0), .val (.bool false)]⟩),(5,⟨true,72,3, .flat [.sl 1000 0 N.length, .sl 1001 0 N.length, .val (.bool b)]⟩)]) ?_ ?_
  ·(refine ab ?_;apply aa rfl;(exact ae rfl rfl);apply aa rfl;(exact aE (d:=1) rfl rfl rfl (by as_aux_lemma=>kernel_rfl));apply aa rfl;(exact aQ rfl (by as_aux_lemma=>kernel_rfl) rfl rfl rfl rfl);apply aa rfl;(exact a8 rfl rfl rfl (by as_aux_lemma=>kernel_rfl));apply aa rfl;(exact aD rfl rfl rfl rfl);apply aa rfl;(exact ae rfl rfl))
   refine bH 42 rfl (fun h=> ?_) (fun h=> ?_)
   ·(apply aH rfl rfl rfl;(exact aE (d:=2) rfl rfl rfl (by as_aux_lemma=>kernel_rfl));apply aH rfl rfl rfl;(exact aQ rfl (by as_aux_lemma=>kernel_rfl) rfl rfl rfl rfl);apply aH rfl rfl rfl;(exact cV rfl rfl);apply aa rfl;(exact bf rfl rfl rfl);refine aj ?_)
    exact aL (Wk.of ⟨rfl,rfl,rfl,rfl,rfl,by rw [h];rfl,trivial⟩ ⟨rfl,rfl,rfl,rfl,rfl,rfl,rfl,trivial⟩ trivial)
   ·(apply aG rfl rfl rfl rfl rfl;apply aG rfl rfl rfl rfl rfl;apply aG rfl rfl rfl rfl rfl;apply aa rfl;(exact br rfl rfl rfl);refine aj ?_)
    exact aL (Wk.of ⟨rfl,rfl,rfl,rfl,rfl,by rw [h];rfl,trivial⟩ ⟨rfl,rfl,rfl,rfl,rfl,rfl,rfl,trivial⟩ trivial)
  (refine ai ?_)
  refine au rfl (fun hc=> ?_) (fun hc=> ?_)
  ·obtain ⟨hlt,rfl⟩:c < N.length∧b=false:=by
    simp at hc;exact ⟨by omega,hc.2⟩
   obtain ⟨s0,hs0⟩:∃s0:dc,s0=(M,N,false):=⟨_,rfl⟩
   have hok0:bO ng N.length s0:=by subst hs0;exact ⟨hok.wf,Nat.le_refl _,hok.hi⟩
   have houts:outer ng rels (2000 - c) (c + 1) (dm ng rels c s0)=X:=by
    rw [←hout,show 2001 - c=(2000 - c) + 1 by omega,outer,if_pos ⟨hlt,rfl⟩,hs0]
   (refine aI ?_;refine ai ?_;refine ah ?_;refine aB ?_;refine ah ?_;refine ah ?_;refine ab ?_;apply aa rfl;(exact ag rfl rfl);refine aj ?_;refine ai ?_;refine aB ?_)
   refine bl (fun j:Nat×dc=>St.of [(1,o1 (.sl 1002 0 m)),(2,o1 (.ptr 2 0)),(4,o1 (.ptr 4 0)),(5,o1 (.ptr 5 0)),(8,vv (I6 c)),(9,vv (I6 j.1))] [(1000,cz j.2.1),(1001,bw j.2.2.1),(1002,aV words),(1003,aV rels),(2,⟨true,32,2, .flat [.val (I6 ng), .sl 1003 0 R]⟩),(4,⟨true,72,3, .flat [.val (.slice none 0 0), .val (.slice none 0 0), .val (.bool false)]⟩),(5,⟨true,72,3, .flat [.sl 1000 0 j.2.2.1.length, .sl 1001 0 j.2.2.1.length, .val (.bool j.2.2.2)]⟩)])
    (fun j=>j.1≤R∧(rels.take j.1).foldl (cm ng c) s0=j.2∧bO ng N.length j.2) (fun j=>R - j.1) (0,s0) ⟨Nat.zero_le _,rfl,hok0⟩ (Wk.of (by rw [hs0];exact ⟨rfl,rfl,rfl,rfl,rfl,rfl,trivial⟩) (by rw [hs0];exact ⟨rfl,rfl,rfl,rfl,rfl,rfl,rfl,trivial⟩) trivial) ?_
   generalize hn0:N.length=n0 at *
   have hn02:n0≤2000:=hNl
   clear hout hok hc hs0
   clear hn0
   rintro ⟨j,M,N,b⟩ ⟨hj,hfo,hok⟩
   dsimp only at hj hfo ⊢
   have hNl:N.length≤2000:=hok.hi
   have hNn:n0≤N.length:=hok.lo
   have hcN:c < N.length:=by omega
   repeat refine ah ?_
   refine cg (St.of [(1,o1 (.sl 1002 0 m)),(2,o1 (.ptr 2 0)),(4,o1 (.ptr 4 0)),(5,o1 (.ptr 5 0)),(8,vv (I6 c)),(9,vv (I6 j)),(67,vv (.bool ((decide ((j:Int) < R) && (aC N c == (c:Int))) && !b)))] [(1000,cz M),(1001,bw N),(1002,aV words),(1003,aV rels),(2,⟨true,32,2, .flat [.val (I6 ng), .sl 1003 0 R]⟩),(4,⟨true,72,3, .flat [.val (.slice none 0 0), .val (.slice none 0 0), .val (.bool false)]⟩),(5,⟨true,72,3, .flat [.sl 1000 0 N.length, .sl 1001 0 N.length, .val (.bool b)]⟩)]) ?_ ?_
   ·(refine ab ?_;apply aa rfl;(exact ae rfl rfl);apply aa rfl;(exact aE (d:=1) rfl rfl rfl (by as_aux_lemma=>kernel_rfl));apply aa rfl;(exact aQ rfl (by as_aux_lemma=>kernel_rfl) rfl rfl rfl rfl);apply aa rfl;(exact a8 rfl rfl rfl (by as_aux_lemma=>kernel_rfl));apply aa rfl;(exact aD rfl rfl rfl rfl);apply aa rfl;(exact ae rfl rfl))
    refine bH 54 rfl (fun h=> ?_) (fun h=> ?_)
    ·(apply aH rfl rfl rfl;(exact aE (d:=1) rfl rfl rfl (by as_aux_lemma=>kernel_rfl));apply aH rfl rfl rfl;(exact aQ rfl (by as_aux_lemma=>kernel_rfl) rfl rfl rfl rfl);apply aH rfl rfl rfl;(exact ae rfl rfl);apply aH rfl rfl rfl;(exact aU rfl rfl rfl rfl rfl (by as_aux_lemma=>kernel_rfl) (by first | rfl | exact (Int.toNat_of_nonneg (by omega)).symm) (by first | assumption | omega | (simp;omega)) (by first | exact Nat.le_refl _ | exact Nat.le_of_eq (an _).symm | exact Nat.le_of_eq (aw _).symm | (refine Nat.le_trans ?_ (Nat.le_of_eq (an _).symm);(first | omega | (simp;done) | (simp;omega))) | (refine Nat.le_trans ?_ (Nat.le_of_eq (aw _).symm);(first | omega | (simp;done) | (simp;omega)))));apply aH rfl rfl rfl;(exact a7 rfl (by as_aux_lemma=>kernel_rfl) rfl rfl rfl (by first | assumption | exact al (by assumption) | exact ar (by assumption) | exact al (by omega) | exact ar (by omega) | rfl));apply aH rfl rfl rfl;(exact ae rfl rfl);apply aH rfl rfl rfl;(exact aD rfl rfl rfl rfl);apply aa rfl;(exact bf rfl rfl rfl);apply aa rfl;(exact ae rfl rfl))
     refine bH 63 rfl (fun h'=> ?_) (fun h'=> ?_)
     ·(apply aH rfl rfl rfl;(exact aE (d:=2) rfl rfl rfl (by as_aux_lemma=>kernel_rfl));apply aH rfl rfl rfl;(exact aQ rfl (by as_aux_lemma=>kernel_rfl) rfl rfl rfl rfl);apply aH rfl rfl rfl;(exact cV rfl rfl);apply aa rfl;(exact bf rfl rfl rfl);refine aj ?_)
      exact aL (Wk.of ⟨rfl,rfl,rfl,rfl,rfl,rfl,by rw [h,h'];rfl,trivial⟩ ⟨rfl,rfl,rfl,rfl,rfl,rfl,rfl,trivial⟩ trivial)
     ·(apply aG rfl rfl rfl rfl rfl;apply aG rfl rfl rfl rfl rfl;apply aG rfl rfl rfl rfl rfl;apply aa rfl;(exact br rfl rfl rfl);refine aj ?_)
      exact aL (Wk.of ⟨rfl,rfl,rfl,rfl,rfl,rfl,by rw [h,h'];rfl,trivial⟩ ⟨rfl,rfl,rfl,rfl,rfl,rfl,rfl,trivial⟩ trivial)
    ·(apply aG rfl rfl rfl rfl rfl;apply aG rfl rfl rfl rfl rfl;apply aG rfl rfl rfl rfl rfl;apply aG rfl rfl rfl rfl rfl;apply aG rfl rfl rfl rfl rfl;apply aG rfl rfl rfl rfl rfl;apply aG rfl rfl rfl rfl rfl;apply aa rfl;(exact br rfl rfl rfl);apply aa rfl;(exact ae rfl rfl);apply aG rfl rfl rfl rfl rfl;apply aG rfl rfl rfl rfl rfl;apply aG rfl rfl rfl rfl rfl;apply aa rfl;(exact br rfl rfl rfl);refine aj ?_)
     exact aL (Wk.of ⟨rfl,rfl,rfl,rfl,rfl,rfl,by rw [h];rfl,trivial⟩ ⟨rfl,rfl,rfl,rfl,rfl,rfl,rfl,trivial⟩ trivial)
   (refine ai ?_)
   refine au rfl (fun hc=> ?_) (fun hc=> ?_)
   ·obtain ⟨⟨hjr,hlive⟩,rfl⟩:(j < R∧aC N c=(c:Int))∧b=false:=by
     simp at hc;exact ⟨⟨by omega,hc.1.2⟩,hc.2⟩
    have hjw:j < rels.length:=by omega
    obtain ⟨W,hW⟩:∃W,bu rels j=W:=⟨_,rfl⟩
    have hWm:W∈rels:=by rw [←hW];exact fD hjw
    obtain ⟨C,hC⟩:∃C,cu ng M N c (W.map Int.toNat)=C:=⟨_,rfl⟩
    have hlv:dX (M,N,false) c=true:=by show (decide (aC N c=(c:Int)) && !false)=true;simp [hlive]
    have hcl:FC Try.prog 70 [(1000,cz M),(1001,bw N),(1003,aV rels)] [uF N.length N.length false,vv (I6 c),o1 (.esl 1003 j 0 W.length)] [(1000,cz C.1),(1001,bw C.2.1)] (.s (.agg [.sl 1000 0 C.2.1.length, .sl 1001 0 C.2.1.length, .val (.bool C.2.2)])) []:=(m8 ng N.length M N c rels j W.length W rfl hok.wf hcN hNl hng hjw hW rfl (hrl W hWm) (hr W hWm) C hC).nm [(1000,1000),(1001,1001),(1002,1003)] (by kernel_rfl)
    have hst:cm ng c (M,N,false) W=C:=by unfold cm;rw [if_pos hlv];exact hC
    have hfo':(rels.take (j + 1)).foldl (cm ng c) s0=C:=by
     rw [gO hjw,List.foldl_append,hfo,hW];exact hst
    have hok':bO ng n0 C:=by rw [←hst];exact gP hok hlt (hr W hWm)
    have hrow:(bK rels)[j]? =some (aJ W):=by rw [←hW];exact ar hjw
    (refine aI ?_;refine ai ?_;refine ah ?_;refine aB ?_)
    apply dG 7 [] [[], [], [], [2], [], [2,3,4], [2,3,4,5], [0,1,2,3,4,5,6], [0,1,2,3,4,5,6,7]] [70,71,72,73,74,75,76] [] (by kernel_rfl) (by kernel_rfl)
    ·(apply aF rfl;(intro S1 hS;exact a3 rfl (hS.op rfl) (hS.ch _ _ rfl) rfl rfl rfl (by as_aux_lemma=>kernel_rfl));apply aF rfl;(intro S1 hS;exact ae rfl (hS.op rfl));apply aF rfl;(intro S1 hS;exact aE (d:=1) rfl (hS.op rfl) (hS.ch _ _ rfl) (by as_aux_lemma=>kernel_rfl));apply aF rfl;(intro S1 hS;exact aQ rfl (by as_aux_lemma=>kernel_rfl) (hS.op rfl) (hS.ch _ _ rfl) rfl rfl);apply aF rfl;(intro S1 hS;exact ae rfl (hS.op rfl));apply aF rfl;(intro S1 hS;exact aU rfl (hS.op rfl) (hS.op rfl) (hS.ch _ _ rfl) rfl (by as_aux_lemma=>kernel_rfl) (by first | rfl | exact (Int.toNat_of_nonneg (by omega)).symm) (by first | assumption | omega | (simp;omega)) (by first | exact Nat.le_refl _ | exact Nat.le_of_eq (an _).symm | exact Nat.le_of_eq (aw _).symm | (refine Nat.le_trans ?_ (Nat.le_of_eq (an _).symm);(first | omega | (simp;done) | (simp;omega))) | (refine Nat.le_trans ?_ (Nat.le_of_eq (aw _).symm);(first | omega | (simp;done) | (simp;omega)))));apply aF rfl;(intro S1 hS;exact bo rfl (by as_aux_lemma=>kernel_rfl) (hS.op rfl) (hS.ch _ _ rfl) rfl (by first | assumption | exact al (by assumption) | exact ar (by assumption) | exact al (by omega) | exact ar (by omega) | rfl) (by first | exact an _ | assumption | rfl));exact ey.nil)
    ·rfl
    ((apply aA 7 rfl (by as_aux_lemma=>kernel_rfl) rfl rfl;(apply ak 70;exact ct [] hcl (by as_aux_lemma=>kernel_rfl) rfl rfl ⟨⟨.inl rfl, .inl rfl, .inl rfl,trivial⟩,rfl,rfl,trivial⟩ ⟨⟨_,rfl, .inl rfl⟩,⟨_,rfl, .inl rfl⟩,⟨_,rfl, .inl rfl⟩,trivial⟩ trivial rfl rfl));(apply aA 8 rfl (by as_aux_lemma=>kernel_rfl) rfl rfl;(exact a6 rfl rfl rfl rfl rfl rfl rfl rfl (by as_aux_lemma=>kernel_rfl) rfl));(refine aY (by as_aux_lemma=>kernel_rfl) ?_;skip))
    (refine aK ?_;refine ai ?_;refine ab ?_;apply aa rfl;(exact ae rfl rfl);apply aa rfl;(exact aR rfl rfl rfl (by first | exact IntWalk.i64_in _ (by omega) | rfl));apply aa rfl;(exact ag rfl rfl);refine aj ?_)
    exact aX (j + 1,C) ⟨hjr,hfo',hok'⟩ (by show R - (j + 1) < R - j;omega) (Wk.of ⟨rfl,rfl,rfl,rfl,rfl,rfl,trivial⟩ ⟨rfl,rfl,rfl,rfl,rfl,rfl,rfl,trivial⟩ trivial)
   ·(refine a5 ?_;refine ax ?_;refine ax ?_;refine aM ?_;refine ai ?_;refine ah ?_;refine ab ?_;apply aa rfl;(exact ag rfl rfl);refine aj ?_;refine ai ?_;refine aB ?_)
    have hfull:rels.foldl (cm ng c) s0=(M,N,b):=by
     by_cases hjR:j=R
     ·rw [←hfo,hjR,←hR,List.take_length]
     ·refine xm hfo ?_
      rw [decide_eq_true (show (j:Int) < R by omega)] at hc
      show (decide (aC N c=(c:Int)) && !b)=false
      simpa using hc
    obtain ⟨s1,hs1⟩:∃s1:dc,s1=(M,N,b):=⟨_,rfl⟩
    have hok1:bO ng n0 s1:=by rw [hs1];exact hok
    have hcos:(List.range ng).foldl (cI ng c) s1=dm ng rels c s0:=by unfold dm;rw [hfull,hs1]
    refine bl (fun g:Nat×dc=>St.of [(1,o1 (.sl 1002 0 m)),(2,o1 (.ptr 2 0)),(4,o1 (.ptr 4 0)),(5,o1 (.ptr 5 0)),(8,vv (I6 c)),(10,vv (I6 g.1))] [(1000,cz g.2.1),(1001,bw g.2.2.1),(1002,aV words),(1003,aV rels),(2,⟨true,32,2, .flat [.val (I6 ng), .sl 1003 0 R]⟩),(4,⟨true,72,3, .flat [.val (.slice none 0 0), .val (.slice none 0 0), .val (.bool false)]⟩),(5,⟨true,72,3, .flat [.sl 1000 0 g.2.2.1.length, .sl 1001 0 g.2.2.1.length, .val (.bool g.2.2.2)]⟩)])
     (fun g=>g.1≤ng∧(List.range g.1).foldl (cI ng c) s1=g.2∧bO ng n0 g.2) (fun g=>ng - g.1) (0,s1) ⟨Nat.zero_le _,rfl,hok1⟩ (Wk.of (by rw [hs1];exact ⟨rfl,rfl,rfl,rfl,rfl,rfl,trivial⟩) (by rw [hs1];exact ⟨rfl,rfl,rfl,rfl,rfl,rfl,rfl,trivial⟩) trivial) ?_
    clear hok hc hs1 hfull hfo hcN hNl hNn
    rintro ⟨g,M,N,b⟩ ⟨hg,hfo,hok⟩
    dsimp only at hg hfo ⊢
    have hNl:N.length≤2000:=hok.hi
    have hNn:n0≤N.length:=hok.lo
    have hcN:c < N.length:=by omega
    repeat refine ah ?_
    refine cg (St.of [(1,o1 (.sl 1002 0 m)),(2,o1 (.ptr 2 0)),(4,o1 (.ptr 4 0)),(5,o1 (.ptr 5 0)),(8,vv (I6 c)),(10,vv (I6 g)),(95,vv (.bool ((decide ((g:Int) < ng) && (aC N c == (c:Int))) && !b)))] [(1000,cz M),(1001,bw N),(1002,aV words),(1003,aV rels),(2,⟨true,32,2, .flat [.val (I6 ng), .sl 1003 0 R]⟩),(4,⟨true,72,3, .flat [.val (.slice none 0 0), .val (.slice none 0 0), .val (.bool false)]⟩),(5,⟨true,72,3, .flat [.sl 1000 0 N.length, .sl 1001 0 N.length, .val (.bool b)]⟩)]) ?_ ?_
    ·(refine ab ?_;apply aa rfl;(exact ae rfl rfl);apply aa rfl;(exact aE (d:=0) rfl rfl rfl (by as_aux_lemma=>kernel_rfl));apply aa rfl;(exact aQ rfl (by as_aux_lemma=>kernel_rfl) rfl rfl rfl rfl);apply aa rfl;(exact aD rfl rfl rfl rfl);apply aa rfl;(exact ae rfl rfl))
     refine bH 82 rfl (fun h=> ?_) (fun h=> ?_)
     ·(apply aH rfl rfl rfl;(exact aE (d:=1) rfl rfl rfl (by as_aux_lemma=>kernel_rfl));apply aH rfl rfl rfl;(exact aQ rfl (by as_aux_lemma=>kernel_rfl) rfl rfl rfl rfl);apply aH rfl rfl rfl;(exact ae rfl rfl);apply aH rfl rfl rfl;(exact aU rfl rfl rfl rfl rfl (by as_aux_lemma=>kernel_rfl) (by first | rfl | exact (Int.toNat_of_nonneg (by omega)).symm) (by first | assumption | omega | (simp;omega)) (by first | exact Nat.le_refl _ | exact Nat.le_of_eq (an _).symm | exact Nat.le_of_eq (aw _).symm | (refine Nat.le_trans ?_ (Nat.le_of_eq (an _).symm);(first | omega | (simp;done) | (simp;omega))) | (refine Nat.le_trans ?_ (Nat.le_of_eq (aw _).symm);(first | omega | (simp;done) | (simp;omega)))));apply aH rfl rfl rfl;(exact a7 rfl (by as_aux_lemma=>kernel_rfl) rfl rfl rfl (by first | assumption | exact al (by assumption) | exact ar (by assumption) | exact al (by omega) | exact ar (by omega) | rfl));apply aH rfl rfl rfl;(exact ae rfl rfl);apply aH rfl rfl rfl;(exact aD rfl rfl rfl rfl);apply aa rfl;(exact bf rfl rfl rfl);apply aa rfl;(exact ae rfl rfl))
      refine bH 91 rfl (fun h'=> ?_) (fun h'=> ?_)
      ·(apply aH rfl rfl rfl;(exact aE (d:=2) rfl rfl rfl (by as_aux_lemma=>kernel_rfl));apply aH rfl rfl rfl;(exact aQ rfl (by as_aux_lemma=>kernel_rfl) rfl rfl rfl rfl);apply aH rfl rfl rfl;(exact cV rfl rfl);apply aa rfl;(exact bf rfl rfl rfl);refine aj ?_)
       exact aL (Wk.of ⟨rfl,rfl,rfl,rfl,rfl,rfl,by rw [h,h'];rfl,trivial⟩ ⟨rfl,rfl,rfl,rfl,rfl,rfl,rfl,trivial⟩ trivial)
      ·(apply aG rfl rfl rfl rfl rfl;apply aG rfl rfl rfl rfl rfl;apply aG rfl rfl rfl rfl rfl;apply aa rfl;(exact br rfl rfl rfl);refine aj ?_)
       exact aL (Wk.of ⟨rfl,rfl,rfl,rfl,rfl,rfl,by rw [h,h'];rfl,trivial⟩ ⟨rfl,rfl,rfl,rfl,rfl,rfl,rfl,trivial⟩ trivial)
     ·(apply aG rfl rfl rfl rfl rfl;apply aG rfl rfl rfl rfl rfl;apply aG rfl rfl rfl rfl rfl;apply aG rfl rfl rfl rfl rfl;apply aG rfl rfl rfl rfl rfl;apply aG rfl rfl rfl rfl rfl;apply aG rfl rfl rfl rfl rfl;apply aa rfl;(exact br rfl rfl rfl);apply aa rfl;(exact ae rfl rfl);apply aG rfl rfl rfl rfl rfl;apply aG rfl rfl rfl rfl rfl;apply aG rfl rfl rfl rfl rfl;apply aa rfl;(exact br rfl rfl rfl);refine aj ?_)
      exact aL (Wk.of ⟨rfl,rfl,rfl,rfl,rfl,rfl,by rw [h];rfl,trivial⟩ ⟨rfl,rfl,rfl,rfl,rfl,rfl,rfl,trivial⟩ trivial)
    (refine ai ?_)
    refine au rfl (fun hc=> ?_) (fun hc=> ?_)
    ·obtain ⟨⟨hgn,hlive⟩,rfl⟩:(g < ng∧aC N c=(c:Int))∧b=false:=by
      simp at hc;exact ⟨⟨by omega,hc.1.2⟩,hc.2⟩
     have hlv:dX (M,N,false) c=true:=by show (decide (aC N c=(c:Int)) && !false)=true;simp [hlive]
     have hN:=ou ng N.length M N c g rfl hok.wf hcN hgn hNl hng
     have hst:cI ng c (M,N,false) g=((bI ng M N c g).1,(bI ng M N c g).2.1,(bI ng M N c g).2.2.1):=by unfold cI;rw [if_pos hlv]
     have hok':=jm (g:=g) hok hlt hgn
     rw [hst] at hok'
     have hfo':(List.range (g + 1)).foldl (cI ng c) s1=((bI ng M N c g).1,(bI ng M N c g).2.1,(bI ng M N c g).2.2.1):=by
      rw [List.range_succ,List.foldl_append,hfo,←hst];rfl
     generalize bI ng M N c g=D at *
     obtain ⟨M',N',b',d'⟩:=D
     dsimp only at hN hok' hfo'
     (refine aI ?_;refine ai ?_;refine ah ?_;refine aB ?_;refine ah ?_;refine ab ?_;apply aa rfl;(exact a3 rfl rfl rfl rfl rfl rfl (by as_aux_lemma=>kernel_rfl));apply aa rfl;(exact ae rfl rfl);apply aa rfl;(exact ae rfl rfl);apply aa rfl;(apply ak 71;exact ct [] hN (by as_aux_lemma=>kernel_rfl) rfl rfl ⟨⟨.inl rfl, .inl rfl, .inl rfl,trivial⟩,rfl,rfl,trivial⟩ ⟨⟨_,rfl, .inl rfl⟩,⟨_,rfl, .inl rfl⟩,trivial⟩ trivial rfl rfl);apply aa rfl;(exact ae rfl rfl);apply aa rfl;(exact aZ rfl rfl rfl);apply aa rfl;(exact aZ rfl rfl rfl);apply aa rfl;(exact b7 [.slice none 0 0, .slice none 0 0, .bool false] rfl (by as_aux_lemma=>kernel_rfl));apply aa rfl;(exact a6 rfl rfl rfl rfl rfl rfl rfl rfl (by as_aux_lemma=>kernel_rfl) rfl);apply aa rfl;(exact ag rfl rfl);refine aj ?_;refine ai ?_;refine ab ?_;apply aa rfl;(exact a3 rfl rfl rfl rfl rfl rfl (by as_aux_lemma=>kernel_rfl));apply aa rfl;(exact a6 rfl rfl rfl rfl rfl rfl rfl rfl (by as_aux_lemma=>kernel_rfl) rfl);refine aj ?_;refine aK ?_;refine ai ?_;refine ab ?_;apply aa rfl;(exact ae rfl rfl);apply aa rfl;(exact aR rfl rfl rfl (by first | exact IntWalk.i64_in _ (by omega) | rfl));apply aa rfl;(exact ag rfl rfl);refine aj ?_)
     exact aX (g + 1,(M',N',b')) ⟨hgn,hfo',hok'⟩ (by show ng - (g + 1) < ng - g;omega) (Wk.of ⟨rfl,rfl,rfl,rfl,rfl,rfl,trivial⟩ ⟨rfl,rfl,rfl,rfl,rfl,rfl,rfl,trivial⟩ trivial)
    ·(refine a5 ?_;refine ax ?_;refine ax ?_;refine aM ?_;refine aK ?_;refine ai ?_;refine ab ?_;apply aa rfl;(exact ae rfl rfl);apply aa rfl;(exact aR rfl rfl rfl (by first | exact IntWalk.i64_in _ (by omega) | rfl));apply aa rfl;(exact ag rfl rfl);refine aj ?_)
     have hfg:dm ng rels c s0=(M,N,b):=by
      rw [←hcos]
      by_cases hgn:g=ng
      ·rw [←hfo,hgn]
      ·refine oG hfo ?_ ng hg
       rw [decide_eq_true (show (g:Int) < ng by omega)] at hc
       show (decide (aC N c=(c:Int)) && !b)=false
       simpa using hc
     exact aX (c + 1,(M,N,b)) ⟨by show outer ng rels (2001 - (c + 1)) (c + 1) (M,N,b)=X;rw [show 2001 - (c + 1)=2000 - c by omega,←hfg];exact houts,by show c + 1≤N.length;omega,hok.le (by omega)⟩ (by show 2001 - (c + 1) < 2001 - c;omega) (Wk.of ⟨rfl,rfl,rfl,rfl,rfl,trivial⟩ ⟨rfl,rfl,rfl,rfl,rfl,rfl,rfl,trivial⟩ trivial)
  ·(refine a5 ?_;refine ax ?_;refine ax ?_;refine aM ?_;refine ai ?_;refine ah ?_;refine ab ?_;apply aa rfl;(exact a3 rfl rfl rfl rfl rfl rfl (by as_aux_lemma=>kernel_rfl));apply aa rfl;(exact a6 rfl rfl rfl rfl rfl rfl rfl rfl (by as_aux_lemma=>kernel_rfl) rfl);refine aj ?_;refine ai ?_;refine aW ?_)
   have hXs:(M,N,b)=X:=by
    rw [←hout]
    cases hk:2001 - c with
    | zero=>omega
    | succ f=>
     rw [outer,if_neg]
     rintro ⟨h1,h2⟩
     have h1:c < N.length:=h1
     have h2:b=false:=h2
     rw [decide_eq_true (show (c:Int) < N.length by omega),h2] at hc
     cases hc
   subst hXs
   exact bd (.inl rfl) rfl (.cell rfl rfl rfl rfl rfl (by kernel_rfl)) ⟨rfl,rfl,trivial⟩ trivial
end Go.Proofs.Ytekbhbcgoadciaa
namespace Go.Proofs.Ytekbhbcgoadciaa
open Go.RowKit
set_option maxRecDepth 100000 in
set_option maxHeartbeats 4000000 in
theorem nx (ng:Nat) (rels words:List (List Int)) (R m:Nat) (hR:rels.length=R) (hm:words.length=m) (hr:∀w∈rels,a9 ng w) (hw:∀w∈words,a9 ng w) (hng:ng≤1000) (hrl:∀w∈rels,w.length≤1000000000) (hwl:∀w∈words,w.length≤1000000000) (hR2:R≤1000000000) (hm2:m≤1000000000) (hf:(cB ng rels words).2.2=true):
  FC Try.prog 24 [(1002,aV words),(1003,aV rels)] [.s (.agg [.val (I6 ng), .sl 1003 0 R]),o1 (.sl 1002 0 m)] [] (.tup [.one (.val (.slice none 0 0)), .one (.val (.bool false))]) []:=by
 have hRun:=qx ng rels words R m hR hm hr hw hng hrl hwl hR2 hm2 _ rfl
 rw [hf] at hRun
 refine bc (nt:=101) Try.func24 rfl rfl (by simp) fun w0 ω0=> ?_
 (refine ah ?_;refine ab ?_;apply aa rfl;(exact cS rfl rfl rfl rfl);apply aa rfl;(exact ag rfl rfl);apply aa rfl;(exact ag rfl rfl);refine aj ?_;refine ai ?_;refine ah ?_;refine ab ?_;apply aa rfl;(exact a3 rfl rfl rfl rfl rfl rfl (by as_aux_lemma=>kernel_rfl));apply aa rfl;(exact ae rfl rfl);apply aa rfl;(apply ak 48;exact ct [] hRun (by as_aux_lemma=>kernel_rfl) rfl rfl ⟨⟨.inl rfl, .inl rfl,trivial⟩,rfl,trivial⟩ ⟨⟨_,rfl, .inl rfl⟩,⟨_,rfl, .inl rfl⟩,trivial⟩ trivial rfl rfl);apply aa rfl;(exact b7 [.slice none 0 0, .slice none 0 0, .bool false] rfl (by as_aux_lemma=>kernel_rfl));apply aa rfl;(exact a6 rfl rfl rfl rfl rfl rfl rfl rfl (by as_aux_lemma=>kernel_rfl) rfl);refine aj ?_;refine ai ?_;refine ah ?_;refine ah ?_;refine ab ?_;apply aa rfl;(exact aE (d:=2) rfl rfl rfl (by as_aux_lemma=>kernel_rfl));apply aa rfl;(exact aQ rfl (by as_aux_lemma=>kernel_rfl) rfl rfl rfl rfl);refine aj ?_;refine ai ?_)
 refine au rfl (fun _=> ?_) (fun e=>by cases e)
 (refine ah ?_;refine ab ?_;apply aa rfl;(exact ag rfl rfl);apply aa rfl;(exact ag rfl rfl);refine aj ?_;refine ai ?_;refine aW ?_;refine aT ?_)
 exact cH (.inl rfl) rfl (.tmp rfl) (.tmp rfl) trivial trivial
end Go.Proofs.Ytekbhbcgoadciaa
