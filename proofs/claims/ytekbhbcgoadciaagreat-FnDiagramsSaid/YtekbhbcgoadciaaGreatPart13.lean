/- The presentation of a diagram: the program's walk. -/
import Derived.Test.YtekbhbcgoadciaaGreatPart12
import Derived.Test.YtekbhbcgoadciaaGreatPart8
import Derived.Test.YtekbhbcgoadciaaGreatPart11
import Derived.Test.YtekbhbcgoadciaaGreatPart7
import Derived.Test.YtekbhbcgoadciaaGreatPart9
import Derived.Test.YtekbhbcgoadciaaGreatPart3
import Derived.Test.YtekbhbcgoadciaaGreatPart2
import Derived.Test.YtekbhbcgoadciaaGreatPart4
import Derived.Test.YtekbhbcgoadciaaGreatPart1
set_option maxRecDepth 100000
set_option maxHeartbeats 6400000
namespace Go.Proofs.YtekbhbcgoadciaaGreat
open Go.RowKit
theorem wP (ao:Option Addr) (n c:Nat) (zs:List Int) (w:World) (h:dC w ao n zs) (hz:∀j,j < n→0≤aC zs j∧aC zs j≤32) (hn:n < 5):
  Calls Tryz.prog 74 #[.slice ao n c] w fun e w'=>∃v,e= .returned v∧tE 2 24 w' w.heap.size w'.heap.size v (bJ zs)∧Below w.heap.size w w':=by
 have HL:=Lib.hid h.1
 obtain ⟨N,hN⟩:∃N,n + 1=N:=⟨_,rfl⟩
 have hN5:N≤5:=by omega
 go_enter Tryz.func74,Tryz.ntmps74
 go_wp2_with (go_at_call 62;refine (EP ao n c _).mono ?_;rintro e w1 ⟨rfl,rfl⟩)
 rw [show ((n:Int) + 1)=(N:Int) by omega]
 have r0:iX ((w.alloc (.cells #[.int .i64 0, .slice none 0 0] 46)).alloc (.cells #[.int .i64 N, .slice none 0 0] 46)) w.heap.size 46 #[.int .i64 0, .slice none 0 0]:=(jK rfl).alloc _
 have r1:iX ((w.alloc (.cells #[.int .i64 0, .slice none 0 0] 46)).alloc (.cells #[.int .i64 N, .slice none 0 0] 46)) (w.heap.size + 1) 46 #[.int .i64 N, .slice none 0 0]:=jK (by simp)
 go_loopw [14] (fun i wr=>∃(k m:Nat) (ao':Option Addr) (c':Nat) (us:List Value),i= .int .i64 k∧k≤N∧sD w wr N ao' m c' us (lT zs N k)) (fun i _=>N - (intOf i).toNat)
 case atStart=>exact ⟨0,0,none,0, [],rfl,Nat.zero_le _,r0,r1,mx.lf (Own.Ex _ _ _) (fun g hg=>by cases hg),by simp,below_alloc2 _ _ _,ae⟩
 case round=>
  obtain ⟨k,m,ao',c',us,rfl,hk,st⟩:=hrel
  by_cases hlt:k < N
  ·have x0:=st.box.cell 0
   simp at x0
   have ST:=Lib.hid st
   clear st r0 r1
   go_wp2_with fail
   go_loopw [6] (fun i wr=>∃(j m:Nat) (ao':Option Addr) (c':Nat) (us:List Value),i= .int .i64 j∧k < j∧j≤N∧sD w wr N ao' m c' us (lT zs N k ++ gY zs k (j - (k + 1)))) (fun i _=>N - (intOf i).toNat)
   case atStart=>exact ⟨k + 1,m,ao',c',us,by simp,ae,ae,by simpa [gY] using ST.out⟩
   case round=>
    obtain ⟨j,m,ao',c',us,rfl,hkj,hj,st⟩:=hrel
    clear ST x0
    have x0:=st.box.cell 0
    have x1:=st.box.cell 1
    have f1:=st.box.frozen 1
    simp at x0 x1
    have ST:=Lib.hid st
    clear st
    by_cases hlt2:j < N
    ·by_cases hjk:j=k + 1
     ·subst hjk
      obtain ⟨L,hL⟩:∃L:Nat,aC zs k=(L:Int):=⟨(aC zs k).toNat,by have:=hz k ae;omega⟩
      have hL2:L≤32:=by have:=hz k ae;omega
      have hlab:jF zs k (k + 1)=(L:Int):=by unfold jF;rw [if_pos rfl,hL]
      have HLAB:=Lib.hid hlab
      clear hlab
      obtain ⟨b,off,rfl,hc⟩:=(h.below ST.out.below).at_ (k:=k) ae
      rw [hL] at hc
      by_cases hL0:0 < L
      ·have hm:m + 1≤1000:=by have h1:=ST.out.row.len;have h2:=uu zs N k;have h3:=ns zs k ((k + 1) - (k + 1));have h4:N * k≤5 * 5:=Nat.mul_le_mul hN5 ae;rw [List.length_append] at h1;omega
       have hP:dC (wr.alloc (.cells #[.int .i64 k, .int .i64 ((k:Int) + 1)] 2)).drew (some ⟨wr.heap.size,0,none⟩) 2 [(k:Int),((k:Int) + 1)]:=Own.ints (zs:= [(k:Int),((k:Int) + 1)]) (Bm (us:= [.int .i64 k, .int .i64 ((k:Int) + 1)]) rfl (Nat.le_refl _) (by simp))
       have bP:Below wr.heap.size wr (wr.alloc (.cells #[.int .i64 k, .int .i64 ((k:Int) + 1)] 2)):=below_alloc1 _ _
       have HP:=Lib.hid hP
       have BP:=Lib.hid bP
       have HM:=Lib.hid hm
       have hsz:=ST.out.size
       have HO:Hid (ig zs k (k + 1)= [ez [(k:Int),((k:Int) + 1)] L]):=Lib.hid (by unfold ig;rw [HLAB.out,if_pos ae];rfl)
       clear hP bP hm
       go_wp2_with fail
       have xP:(wr.alloc (.cells #[.int .i64 k, .int .i64 ((k:Int) + 1)] 2)).cell? ⟨w.heap.size + 1,1,none⟩=some (.slice ao' m c'):=(ST.out.box.alloc _).cell 1
       go_region_law (first | (refine yY (o:=⟨some 42,_,_,_,_,_⟩) Jj rfl (.tmp 35) (.tmp 41) rfl (w.heap.size + 2) ao' m c' us rfl (ST.out.row.own.below B3) (.slice a1 (2 * L) c1) w2.heap.size 1 rfl ((jK rfl).cell 0) rfl (by have:=HM.out;omega) (by have:=B3.size;simp at *;omega) ?_;intro ao2 c2 w4 o4 g4 hat;have B4S:Below (w.heap.size + 2) wr w4:=(B3S.grown g4 (by have:=B3.size;omega) (fun g hg=>(ST.out.row.own.lt g hg).1));have x4:w4.cell? ⟨w.heap.size + 1,1,none⟩=some (.slice ao' m c'):=(ST.out.box.below B4S ae).cell 1;have f4:w4.frozen? ⟨w.heap.size + 1,1,none⟩=false:=(ST.out.box.below B4S ae).frozen 1) | (go_simp;go_at_call 118;refine (nG _ 2 2 L [(k:Int),((k:Int) + 1)] _ HP.out ae ae ae ae).mono ?_;rintro e w2 ⟨a1,c1,rfl,o1,b1⟩;have B2:Below wr.heap.size wr w2:=jZ b1 BP.out.drew;have B2S:=B2.mono hsz;have B3:Below wr.heap.size wr (w2.alloc (.cells #[.slice a1 (2 * L) c1] 24)):=B2.alloc B2.size _;have B3S:=B3.mono hsz;have x2:w2.cell? ⟨w.heap.size + 1,1,none⟩=some (.slice ao' m c'):=(ST.out.box.below B2S ae).cell 1;have x3:(w2.alloc (.cells #[.slice a1 (2 * L) c1] 24)).cell? ⟨w.heap.size + 1,1,none⟩=some (.slice ao' m c'):=(ST.out.box.below B3S ae).cell 1))
       all_goals
        have st2:=ST.out.push HM.out B2 (o1.mono (by simp [World.drew])) (below_alloc1 _ _) o4 g4 hat
        have hs4:=B4S.size
        generalize w4.setCell ⟨w.heap.size + 1,1,none⟩ (.slice ao2 (m + 1) c2)=wf at *
        clear B2 B2S B3 B3S B4S x0 x1 x2 x3 x4 xP f1 f4 o1 b1 o4 g4 hat ST HP BP
        go_wp2_with fail
        go_roundw
        case rel=>exact ⟨(k + 1) + 1,m + 1,ao2,c2,_,by go_num,ae,ae,by rw [nH ae,←List.append_assoc,HO.out];exact st2⟩
        case measure=>simp [intOf];omega
      ·obtain rfl:L=0:=by omega
       have HO:Hid (ig zs k (k + 1)= []):=Lib.hid (by unfold ig;rw [HLAB.out,if_neg ae])
       go_wp2_with fail
       go_roundw
       case rel=>exact ⟨k + 1 + 1,m,ao',c',us,by go_num,ae,ae,by rw [nH ae,←List.append_assoc,HO.out,List.append_nil];exact ST.out⟩
       case measure=>simp [intOf];omega
     ·have hm:m + 1≤1000:=by have h1:=ST.out.row.len;have h2:=uu zs N k;have h3:=ns zs k (j - (k + 1));have h4:N * k≤5 * 5:=Nat.mul_le_mul hN5 ae;rw [List.length_append] at h1;omega
      have hP:dC (wr.alloc (.cells #[.int .i64 k, .int .i64 (j:Int)] 2)).drew (some ⟨wr.heap.size,0,none⟩) 2 [(k:Int),(j:Int)]:=Own.ints (zs:= [(k:Int),(j:Int)]) (Bm (us:= [.int .i64 k, .int .i64 (j:Int)]) rfl (Nat.le_refl _) (by simp))
      have bP:Below wr.heap.size wr (wr.alloc (.cells #[.int .i64 k, .int .i64 (j:Int)] 2)):=below_alloc1 _ _
      have HP:=Lib.hid hP
      have BP:=Lib.hid bP
      have HM:=Lib.hid hm
      have hsz:=ST.out.size
      have HO:Hid (ig zs k j= [ez [(k:Int),(j:Int)] 2]):=Lib.hid (by unfold ig jF;rw [if_neg hjk,if_pos ae];rfl)
      clear hP bP hm
      go_wp2_with fail
      have xP:(wr.alloc (.cells #[.int .i64 k, .int .i64 (j:Int)] 2)).cell? ⟨w.heap.size + 1,1,none⟩=some (.slice ao' m c'):=(ST.out.box.alloc _).cell 1
      go_region_law (first | (refine yY (o:=⟨some 42,_,_,_,_,_⟩) Jj rfl (.tmp 35) (.tmp 41) rfl (w.heap.size + 2) ao' m c' us rfl (ST.out.row.own.below B3) (.slice a1 (2 * 2) c1) w2.heap.size 1 rfl ((jK rfl).cell 0) rfl (by have:=HM.out;omega) (by have:=B3.size;simp at *;omega) ?_;intro ao2 c2 w4 o4 g4 hat;have B4S:Below (w.heap.size + 2) wr w4:=(B3S.grown g4 (by have:=B3.size;omega) (fun g hg=>(ST.out.row.own.lt g hg).1));have x4:w4.cell? ⟨w.heap.size + 1,1,none⟩=some (.slice ao' m c'):=(ST.out.box.below B4S ae).cell 1;have f4:w4.frozen? ⟨w.heap.size + 1,1,none⟩=false:=(ST.out.box.below B4S ae).frozen 1) | (go_simp;go_at_call 118;refine (nG _ 2 2 2 [(k:Int),(j:Int)] _ HP.out ae ae ae ae).mono ?_;rintro e w2 ⟨a1,c1,rfl,o1,b1⟩;have B2:Below wr.heap.size wr w2:=jZ b1 BP.out.drew;have B2S:=B2.mono hsz;have B3:Below wr.heap.size wr (w2.alloc (.cells #[.slice a1 (2 * 2) c1] 24)):=B2.alloc B2.size _;have B3S:=B3.mono hsz;have x2:w2.cell? ⟨w.heap.size + 1,1,none⟩=some (.slice ao' m c'):=(ST.out.box.below B2S ae).cell 1;have x3:(w2.alloc (.cells #[.slice a1 (2 * 2) c1] 24)).cell? ⟨w.heap.size + 1,1,none⟩=some (.slice ao' m c'):=(ST.out.box.below B3S ae).cell 1))
      all_goals
       have st2:=ST.out.push HM.out B2 (o1.mono (by simp [World.drew])) (below_alloc1 _ _) o4 g4 hat
       have hs4:=B4S.size
       generalize w4.setCell ⟨w.heap.size + 1,1,none⟩ (.slice ao2 (m + 1) c2)=wf at *
       clear B2 B2S B3 B3S B4S x0 x1 x2 x3 x4 xP f1 f4 o1 b1 o4 g4 hat ST HP BP
       go_wp2_with fail
       go_roundw
       case rel=>exact ⟨j + 1,m + 1,ao2,c2,_,by go_num,ae,ae,by rw [nH ae,←List.append_assoc,HO.out];exact st2⟩
       case measure=>simp [intOf];omega
    ·obtain rfl:j=N:=by omega
     go_wp2_with fail
     go_roundw
     case rel=>exact ⟨k + 1,m,ao',c',us,by go_num,ae,ST.out⟩
     case measure=>simp [intOf];omega
  ·obtain rfl:k=N:=by omega
   have x0:=st.box.cell 0
   have x1:=st.box.cell 1
   have y0:=st.res.cell 0
   have y1:=st.res.cell 1
   have f0:=st.res.frozen 0
   have f1:=st.res.frozen 1
   simp at x0 x1 y0 y1
   have ST:=Lib.hid st
   clear st r0 r1
   go_wp2_with fail
   have st2:=ST.out.done
   generalize (wr.setCell ⟨w.heap.size,0,none⟩ (.int .i64 k)).setCell ⟨w.heap.size,1,none⟩ (.slice ao' m c')=wf at *
   have e0:=st2.1.cell 0
   have e1:=st2.1.cell 1
   simp at e0 e1
   refine bodyPost_ret (v:= .agg #[.int .i64 k, .slice ao' m c']) (by simp [results,Tryz.f74,go_sem,e0,e1]) rfl ⟨_,rfl,⟨ao',m,c',us, ?_, ?_⟩,st2.2.2⟩
   ·unfold bJ;rw [HL.out,hN]
   ·unfold bJ;rw [HL.out,hN];exact st2.2.1.mono ae (Nat.le_refl _)
end Go.Proofs.YtekbhbcgoadciaaGreat
namespace Go.Proofs.YtekbhbcgoadciaaGreat
open Go.RowKit
theorem Ce {zs:List Int} (h:cw zs=true):zs.length < 5∧∀j,j < zs.length→0≤aC zs j∧aC zs j≤32:=by
 unfold cw at h
 simp only [Bool.and_eq_true,List.all_eq_true,decide_eq_true_eq] at h
 refine ⟨h.2,fun j hj=> ?_⟩
 have h1:=h.1 (aC zs j) (by rw [cX hj];exact List.getElem_mem hj)
 unfold eJ at h1
 rcases Bool.or_eq_true _ _ ▸ h1 with h2 | h2
 ·have:aC zs j=0:=by simpa using h2
  omega
 ·have:=fC.1 h2
  omega
def gP (zs:List Int):du:=if cw zs=true then bJ zs else (0, [])
def wS (zs:List Int):Int:=if cw zs=true then 0 else 1
theorem y3 (ao:Option Addr) (n c:Nat) (zs:List Int) (w:World) (h:dC w ao n zs):
  Calls Tryz.prog 27 #[.slice ao n c] w fun e w'=>∃v,e= .returned (.tuple #[v, .int .i64 (wS zs)])∧tE 2 24 w' w.heap.size w'.heap.size v (gP zs)∧Below w.heap.size w w':=by
 have hb:=below_alloc1 w (.cells #[.int .i64 0, .slice none 0 0] 46)
 have kb:iX (w.alloc (.cells #[.int .i64 0, .slice none 0 0] 46)) w.heap.size 46 #[.int .i64 0, .slice none 0 0]:=jK rfl
 have hi:=h.below hb
 cases hp:cw zs with
 | true=>
  obtain ⟨hd1,hd2⟩:=Ce hp
  rw [h.1] at hd1 hd2
  have hR:gP zs=bJ zs:=by unfold gP;rw [if_pos hp]
  have hC:wS zs=0:=by unfold wS;rw [if_pos hp]
  have HX:=Lib.hid hp
  rw [hR,hC]
  clear hp hR hC
  go_enter Tryz.func27,Tryz.ntmps27
  go_wp2_with fail
  refine (gT ao n c zs _ hi).mono ?_
  rintro e w1 ⟨rfl,b1⟩
  rw [HX.out]
  have k0:=kb.mh b1
  have B1:=jZ b1 hb
  have hi1:=hi.below b1
  have HZ:=Lib.hid hb.size
  clear kb hb b1 hi h
  go_wp2_with fail
  refine (wP ao n c zs _ hi1 hd2 hd1).mono ?_
  rintro e w2 ⟨v1,rfl,⟨a1,n1,c1,us,rfl,o1⟩,b1⟩
  have k1:=k0.mh b1
  have c0:w2.cell? ⟨w.heap.size,0,none⟩=some (.int .i64 0):=k1.cell 0
  have c1':w2.cell? ⟨w.heap.size,1,none⟩=some (.slice none 0 0):=k1.cell 1
  have f0:=k1.frozen 0
  have f1:=k1.frozen 1
  go_wp2
  have hlt:=k0.lt
  have k2:=(k1.tH 0 (.int .i64 (bJ zs).1)).tH 1 (.slice a1 n1 c1)
  have z2:w2.heap.size=((w2.setCell ⟨w.heap.size,0,none⟩ (.int .i64 (bJ zs).1)).setCell ⟨w.heap.size,1,none⟩ (.slice a1 n1 c1)).heap.size:=by simp [World.setCell]
  have o2:=o1.same (ik _) (w':=(w2.setCell ⟨w.heap.size,0,none⟩ (.int .i64 (bJ zs).1)).setCell ⟨w.heap.size,1,none⟩ (.slice a1 n1 c1)) (fun g h1 _ _=>by rw [Below.heap_setCell _ _ _ _ (by simp at h1 ⊢;omega),Below.heap_setCell _ _ _ _ (by simp at h1 ⊢;omega)])
  have b2:=((jZ b1 B1).setCell (p:=⟨w.heap.size,0,none⟩) (Nat.le_refl _) (.int .i64 (bJ zs).1)).setCell (p:=⟨w.heap.size,1,none⟩) (Nat.le_refl _) (.slice a1 n1 c1)
  generalize (w2.setCell ⟨w.heap.size,0,none⟩ (.int .i64 (bJ zs).1)).setCell ⟨w.heap.size,1,none⟩ (.slice a1 n1 c1)=w3 at *
  have e0:=k2.cell 0
  have e1:=k2.cell 1
  simp at e0 e1
  exact bodyPost_ret (v:= .tuple #[.agg #[.int .i64 (bJ zs).1, .slice a1 n1 c1], .int .i64 0]) (by simp [results,Tryz.f27,go_sem,e0,e1]) rfl ⟨_,rfl,⟨_,_,_,us,rfl,o2.mono ae ae⟩,b2⟩
 | false=>
  have hR:gP zs=(0, []):=by unfold gP;rw [if_neg (by simp [hp])]
  have hC:wS zs=1:=by unfold wS;rw [if_neg (by simp [hp])]
  have HX:=Lib.hid hp
  rw [hR,hC]
  clear hp hR hC
  go_enter Tryz.func27,Tryz.ntmps27
  go_wp2_with fail
  refine (gT ao n c zs _ hi).mono ?_
  rintro e w1 ⟨rfl,b1⟩
  rw [HX.out]
  have k0:=kb.mh b1
  have B1:=jZ b1 hb
  have c0:w1.cell? ⟨w.heap.size,0,none⟩=some (.int .i64 0):=k0.cell 0
  have c1':w1.cell? ⟨w.heap.size,1,none⟩=some (.slice none 0 0):=k0.cell 1
  have f0:=k0.frozen 0
  have f1:=k0.frozen 1
  clear kb hb b1 hi h
  go_wp2
  have k2:=(k0.tH 0 (.int .i64 0)).tH 1 (.slice none 0 0)
  have b2:=(B1.setCell (p:=⟨w.heap.size,0,none⟩) (Nat.le_refl _) (.int .i64 0)).setCell (p:=⟨w.heap.size,1,none⟩) (Nat.le_refl _) (.slice none 0 0)
  generalize (w1.setCell ⟨w.heap.size,0,none⟩ (.int .i64 0)).setCell ⟨w.heap.size,1,none⟩ (.slice none 0 0)=w3 at *
  have e0:=k2.cell 0
  have e1:=k2.cell 1
  simp at e0 e1
  exact bodyPost_ret (v:= .tuple #[.agg #[.int .i64 0, .slice none 0 0], .int .i64 1]) (by simp [results,Tryz.f27,go_sem,e0,e1]) rfl ⟨_,rfl,⟨_,_,_, [],rfl,mx.lf (Own.Ex _ _ _) (by simp [bk])⟩,b2⟩
theorem qM {v:Value} {zs:List Int} (w:World) (h:Fe w v zs):
  Calls Tryz.prog 27 #[v] w fun e w'=>∃v,e= .returned (.tuple #[v, .int .i64 (wS zs)])∧tE 2 24 w' w.heap.size w'.heap.size v (gP zs)∧Below w.heap.size w w':=by
 obtain ⟨ao,n,c,rfl,hi⟩:=h
 exact y3 ao n c zs w hi
end Go.Proofs.YtekbhbcgoadciaaGreat
namespace Go.Proofs.YtekbhbcgoadciaaGreat
def zu (a:Int):List Int→List Int
 | []=> [a]
 | b :: l=>if a≤b then a :: b :: l else b :: zu a l
def DG:List Int→List Int
 | []=> []
 | a :: l=>zu a (DG l)
theorem qd (a:Int):∀l,(zu a l).Perm (a :: l)
 | []=>List.Perm.refl _
 | b :: l=>by
  rw [zu]
  split
  ·exact List.Perm.refl _
  ·exact ((qd a l).cons b).trans (List.Perm.swap a b l)
theorem xz (a:Int):∀l:List Int,l.Pairwise (· ≤·)→(zu a l).Pairwise (· ≤·)
 | [],_=>by simp [zu]
 | b :: l,h=>by
  rw [zu]
  have hb:=List.pairwise_cons.1 h
  split
  ·rename_i hab
   refine List.pairwise_cons.2 ⟨fun z hz=> ?_,h⟩
   rcases List.mem_cons.1 hz with rfl | hz
   ·exact hab
   ·have:=hb.1 z hz;omega
  ·rename_i hab
   refine List.pairwise_cons.2 ⟨fun z hz=> ?_,xz a l hb.2⟩
   rcases List.mem_cons.1 ((qd a l).mem_iff.1 hz) with rfl | hz
   ·omega
   ·exact hb.1 z hz
theorem uY:∀l,(DG l).Perm l
 | []=>List.Perm.refl _
 | a :: l=>(qd a _).trans ((uY l).cons a)
theorem yi:∀l,(DG l).Pairwise (· ≤·)
 | []=>List.Pairwise.nil
 | a :: l=>xz a _ (yi l)
theorem Gb (l:List Int):DG l=cJ l:=nF (uY l) (yi l)
def GA (zs:List Int):List Int:=DG (fO (comps zs (cB zs)) (comps zs (cB zs)).length)
theorem Ea (zs:List Int):eV zs (cB zs)=GA zs:=(Gb _).symm
def uf (zs:List Int):List Int:=oi (GA zs) (GA zs).length
theorem Fu (zs:List Int):ot zs=uf zs:=by unfold ot uf;rw [Ea]
def J1 (tw:List Lv):List Nat:=(List.range (dQ tw)).map fun x=>lp tw (ji tw x)
def FN (tw:List Lv) (w:List Nat):Nat:=match (List.range (dQ tw)).find? (fun k=>Fk tw w (k + 1) == dM tw) with
 | some k=>k + 1
 | none=>0
def F6 (zs:List Int) (i j:Nat):Nat:=if i=j then 1 else yU zs i j
def GX (p:List Int×List Lv):Bool:=Nat.blt 400 (dQ p.2) || (wb p.2 && (iY (J1 p.2) (fV (J1 p.2)) == uf p.1 && ((List.range (p.1.length + 1)).all (fun i=>(List.range (p.1.length + 1)).all fun j=>FN p.2 [i,j] == F6 p.1 i j) && FN p.2 (List.range (p.1.length + 1)) == wv p.1 (cB p.1))))
def Hc (p:List Int×List Lv):Bool:=(uf p.1).foldl (· + ·) 0 == D0 p.1 (cB p.1) && ((GA p.1).length == p.1.length + 1 && (qg 0 p.2 == 1 && (uf p.1).all fun z=>decide (0≤z∧z≤100000)))
theorem B0 {p q:Nat→Bool} (h:∀k,p k=q k) (l:List Nat):l.find? p=l.find? q:=by rw [funext h]
theorem CZ {a b:List Nat} (h:a.Perm b):fV a=fV b:=
 Nat.le_antisymm (wj fun x hx=>oP (h.mem_iff.1 hx)) (wj fun x hx=>oP (h.mem_iff.2 hx))
theorem Cd {a b:List Nat} (h:a.Perm b) (n:Nat):iY a n=iY b n:=by
 unfold iY
 refine List.map_congr_left fun l _=> ?_
 rw [(h.filter _).length_eq]
theorem Ew (l:List (List Int)):l.map List.length=(List.range l.length).map fun k=>(bn l k).length:=by
 apply List.ext_getElem
 ·simp
 ·intro i h1 h2
  simp only [List.getElem_map,List.getElem_range]
  rw [iB (by simpa using h1)]
section
variable {zs:List Int} {tw:List Lv}
theorem GQ (D:qK zs tw) (h:C7 zs) (hm:oR zs=dQ tw) {w:List Nat} (hw:∀g∈w,g < zs.length + 1):kj (nV zs) (w.map fun g:Nat=>(g:Int)) (oR zs)=(FN tw w:Int):=by
 unfold kj FN
 rw [B0 (q:=fun k=>Fk tw w (k + 1) == dM tw) (fun k=>by
  have:=Dv D h hw (k + 1)
  rw [Bool.eq_iff_iff]
  simpa using this),hm]
 generalize (List.range (dQ tw)).find? (fun k=>Fk tw w (k + 1) == dM tw)=o
 cases o<;>rfl
theorem Aa (D:qK zs tw) (h:C7 zs) (hm:oR zs=dQ tw):(List.range (oR zs)).Perm ((List.range (dQ tw)).map fun x=>fL zs tw [] (ji tw x)):=by
 have hpos:=jR tw D.ub
 rw [List.perm_ext_iff_of_nodup List.nodup_range]
 ·intro k
  rw [List.mem_range,List.mem_map]
  constructor
  ·intro hk
   obtain ⟨x,hx,e⟩:=AJ D h hk
   exact ⟨m0 tw x,List.mem_range.2 (rk tw x hx),by rw [ld tw x hx];exact e⟩
  ·rintro ⟨x,_,rfl⟩
   exact my D h (pD tw x hpos)
 ·refine pR List.nodup_range fun x hx y hy e=> ?_
  have e2:=qZ D h (pD tw x hpos) (pD tw y hpos) e
  have e3:=congrArg (m0 tw) e2
  rwa [oV tw x (List.mem_range.1 hx),oV tw y (List.mem_range.1 hy)] at e3
theorem BM (D:qK zs tw) (hL:wb tw=true) (h:C7 zs) (hm:oR zs=dQ tw) (hl:(uz (nV zs) (zs.length + 1) (oR zs)).1.length=oR zs):((uz (nV zs) (zs.length + 1) (oR zs)).1.map List.length).Perm (J1 tw):=by
 have hpos:=jR tw D.ub
 rw [Ew,hl]
 refine ((Aa D h hm).map _).trans ?_
 rw [List.map_map]
 unfold J1
 rw [show (List.range (dQ tw)).map ((fun k=>(bn (uz (nV zs) (zs.length + 1) (oR zs)).1 k).length) ∘ fun x=>fL zs tw [] (ji tw x))=(List.range (dQ tw)).map fun x=>lp tw (ji tw x) from
  List.map_congr_left fun x _=>DN D hL h (pD tw x hpos)]
end
end Go.Proofs.YtekbhbcgoadciaaGreat
namespace Go.Proofs.YtekbhbcgoadciaaGreat
theorem Jr:((df.drop 0).take 25).all GX=true:=by decide +kernel
theorem JB:((df.drop 25).take 1).all GX=true:=by decide +kernel
theorem I9:((df.drop 26).take 17).all GX=true:=by decide +kernel
theorem Jv:((df.drop 43).take 30).all GX=true:=by decide +kernel
theorem JD:((df.drop 73).take 1).all GX=true:=by decide +kernel
theorem FB:df.all GX=true:=by
 have e:df=(df.drop 0).take 25 ++ (df.drop 25).take 1 ++ (df.drop 26).take 17 ++ (df.drop 43).take 30 ++ (df.drop 73).take 1:=rfl
 rw [e]
 simp only [List.all_append,Jr,JB,I9,Jv,JD]
 rfl
end Go.Proofs.YtekbhbcgoadciaaGreat
namespace Go.Proofs.YtekbhbcgoadciaaGreat
theorem Jl:((df.drop 0).take 25).all Hc=true:=by decide +kernel
theorem Ju:((df.drop 25).take 1).all Hc=true:=by decide +kernel
theorem JM:((df.drop 26).take 17).all Hc=true:=by decide +kernel
theorem Jb:((df.drop 43).take 30).all Hc=true:=by decide +kernel
theorem JK:((df.drop 73).take 1).all Hc=true:=by decide +kernel
theorem FO:df.all Hc=true:=by
 have e:df=(df.drop 0).take 25 ++ (df.drop 25).take 1 ++ (df.drop 26).take 17 ++ (df.drop 43).take 30 ++ (df.drop 73).take 1:=rfl
 rw [e]
 simp only [List.all_append,Jl,Ju,JM,Jb,JK]
 rfl
end Go.Proofs.YtekbhbcgoadciaaGreat
namespace Go.Proofs.YtekbhbcgoadciaaGreat
theorem H8:∀I:Nat,I < 32→∀i:Nat,i < 5→(kD I (2 ^ i)=true↔I / 2 ^ i % 2=1):=by decide +kernel
theorem Cp {d:du} {ws:List (List Int)} (h:nU d ws=0):fD d ws=true∧(mZ d ws).2.2=false:=by
 unfold nU at h
 split at h
 ·split at h
  ·cases h
  ·rename_i h1 h2
   exact ⟨h1,by simpa using h2⟩
 ·cases h
end Go.Proofs.YtekbhbcgoadciaaGreat
namespace Go.Proofs.YtekbhbcgoadciaaGreat
open Go.RowKit
theorem vE {E:Nat} {lo hi:Nat} {v:Value} {zs:List Int} (w:World) (h:ff E w lo hi v zs):
  Calls Tryz.prog 23 #[v] w fun e w'=>e= .returned (.tuple #[.int .i64 (ka zs), .int .i64 (ja zs)])∧Below w.heap.size w w':=fX (xB (fun k=>EK zs k) h)
theorem vU {E:Nat} {lo hi:Nat} {v:Value} {zs:List Int} (w:World) (h:ff E w lo hi v zs):
  Calls Tryz.prog 22 #[v] w fun e w'=>e= .returned (.tuple #[.int .i64 (ka zs), .int .i64 (ja zs)])∧Below w.heap.size w w':=fX (xB (fun k=>Ee zs k) h)
end Go.Proofs.YtekbhbcgoadciaaGreat
namespace Go.Proofs.YtekbhbcgoadciaaGreat
def sV (zs:List Int):List Int:=(List.range (zs.length + 1)).map fun g:Nat=>(g:Int)
def sG (zs:List Int):List (List Int):=(List.range (zs.length + 1)).map fun i=>(List.range (zs.length + 1)).map fun j=>((F6 zs i j:Nat):Int)
theorem Ge {i k s:Nat} (h:kD i s=true) (h':kD k s=true):kD (i &&& k) s=true:=by
 have h:s ||| i=i:=by simpa [kD] using h
 have h':s ||| k=k:=by simpa [kD] using h'
 have:s ||| (i &&& k)=i &&& k:=by rw [Nat.or_and_distrib_left,h,h']
 simpa [kD] using this
theorem AI {i k:Nat} :∀(tw:List Lv) (x:List Nat),qj i tw x=true→qj k tw x=true→qj (i &&& k) tw x=true
 | [],x,_,_=>by cases x<;>rfl
 | L :: r, [],_,_=>rfl
 | L :: r,d :: u,h,h'=>by
  rw [qj,Bool.and_eq_true] at h h' ⊢
  exact ⟨Ge h.1 h'.1,AI r u h.2 h'.2⟩
theorem EG {zs:List Int} {tw:List Lv} (D:qK zs tw) (h:C7 zs) (h4:zs.length≤4):xL (nV zs) (zs.length + 1) (oR zs)=(0,0,4):=by
 have hb:∀I,I < 32→∀g,g < zs.length + 1→(gp I g=true↔kD I (2 ^ g)=true):=fun I hI g hg=>by
  rw [H8 I hI g ae]
  unfold gp
  exact beq_iff_eq
 have hp:2 ^ (zs.length + 1)≤2 ^ 5:=Nat.pow_le_pow_right (by decide) ae
 refine uS fun i hi k hik hk=>sx fun c hc=> ?_
 obtain ⟨x,hx,rfl⟩:=AJ D h hc
 have hand:i &&& k < 32:=Nat.lt_of_le_of_lt Nat.and_le_left ae
 unfold fQ
 cases h1:dU (mem (nV zs) (zs.length + 1) (oR zs) i).1 (fL zs tw [] x) with
 | false=>rfl
 | true=>
  cases h2:dU (mem (nV zs) (zs.length + 1) (oR zs) k).1 (fL zs tw [] x) with
  | false=>rfl
  | true=>
   have s1:=(vB D h (hb i ae) hx).1 h1
   have s2:=(vB D h (hb k ae) hx).1 h2
   rw [(vB D h (hb _ hand) hx).2 (AI tw x s1 s2)];rfl
theorem rT {zs:List Int} (hd:cw zs=true):gR zs ((cB zs:Nat):Int)=if gO zs (cB zs)=true then 0 else 5:=by
 generalize hA:cB zs=A
 exact sH hd (fC.2 ⟨Int.natCast_nonneg _,by rw [hA];exact Int.le_refl _⟩)
structure J4 (zs:List Int) (w:Nat):Prop where
 whole:sy zs (cB zs)=(w:Int)
 psum:(y5 zs).foldl (· + ·) 0=(w:Int)
 pin:∀z∈y5 zs,0≤z∧z≤100000
 pos:∀i,i < zs.length→0 < aC zs i
 dgs:GH zs=eV zs (cB zs)∧(GH zs).length=zs.length + 1
 kind:ka zs=0∧ja zs=0
 idx:nU (gP zs) []=0→qO (gP zs) []=(w:Int)
 few:nU (gP zs) []=0→w≤400→tl (gP zs) []=0∧Jq (gP zs)=y5 zs∧I4 (gP zs)=sG zs∧tl (gP zs) (sV zs)=0∧I5 (gP zs) (sV zs)=oh zs∧GI (gP zs)=(0,0,4)
theorem JR {zs:List Int} (hA:I2 zs) (hd:cw zs=true) (hf:gO zs (cB zs)=true):∃w,J4 zs w:=by
 obtain ⟨tw,D,hm⟩:=GU (FP hA hd hf)
 obtain ⟨p1,p2⟩:=Ie hm
 have k5:=List.all_eq_true.1 FB _ hm
 have k6:=List.all_eq_true.1 FO _ hm
 unfold Hc at k6
 simp only [Bool.and_eq_true] at k6
 obtain ⟨q1,q2,q3,q4⟩:=k6
 have h4:=c7 hd
 have hfc:eY zs=0:=by unfold eY;rw [rT hd,if_pos hf]
 have hr:gP zs=bJ zs:=by unfold gP;rw [if_pos hd]
 have hdg:GH zs=eV zs (cB zs):=by unfold GH;rw [if_pos hfc]
 have hpn:y5 zs=uf zs:=by unfold y5;rw [if_pos hfc,Fu]
 have hcn:oh zs=(wv zs (cB zs):Int):=by unfold oh;rw [if_pos hfc]
 have hran:∀hc:nU (gP zs) []=0,C7 zs∧fD (bJ zs) []=true:=fun hc=>by
  obtain ⟨hw,hnf⟩:=Cp hc
  rw [hr] at hw hnf
  obtain ⟨ng,e,hG⟩:=rf (g:=((zs.length + 1:Nat):Int)) (rels:=(bJ zs).2) hw
  have e1:((zs.length + 1:Nat):Int)=(ng:Int):=e
  obtain rfl:ng=zs.length + 1:=by omega
  exact ⟨⟨hG.rl,hG.wl,hnf⟩,hw⟩
 have hcm:∀h:C7 zs,oR zs=dQ tw:=fun h=>by
  have:=BS D h (uc _)
  rw [eq_of_beq q3,Nat.mul_one] at this
  exact this
 refine ⟨dQ tw,p1.symm, ?_,fun z hz=> ?_,D.pos,⟨hdg, ?_⟩, ?_,fun hc=> ?_,fun hc h400=> ?_⟩
 ·rw [hpn,eq_of_beq q1,←Af];exact p1.symm
 ·rw [hpn] at hz
  exact of_decide_eq_true (List.all_eq_true.1 q4 z hz)
 ·rw [hdg,Ea];exact eq_of_beq q2
 ·unfold ka ja
  rw [if_pos hd,if_pos hd]
  unfold gO at hf
  rw [of_decide_eq_true hf];exact ⟨rfl,rfl⟩
 ·obtain ⟨h,hw⟩:=hran hc
  rw [hr]
  unfold qO
  rw [if_pos hw,(show (mZ (bJ zs) []).2.2=false from h.nf),if_neg (by simp)]
  exact congrArg _ (hcm h)
 ·obtain ⟨h,hw⟩:=hran hc
  have hN:=hcm h
  unfold GX at k5
  rw [Bool.or_eq_true] at k5
  rcases k5 with k5 | k5
  ·exfalso
   have:400 < dQ tw:=by simpa [Nat.blt_eq] using k5
   omega
  simp only [Bool.and_eq_true] at k5
  obtain ⟨r1,r2,r3,r4⟩:=k5
  have hip:fl (bJ zs)=true:=by
   unfold fD at hw
   rw [Bool.and_eq_true] at hw;exact hw.1
  have hsm:hH (bJ zs) []=true:=by
   unfold hH
   rw [(show (mZ (bJ zs) []).2.2=false from h.nf),Bool.and_eq_true]
   exact ⟨rfl,decide_eq_true (by show oR zs≤400;omega)⟩
  have hel:∀W,di ((bJ zs).1 - 1) W=true→tl (bJ zs) W=0:=fun W hW=>by
   unfold tl
   rw [if_pos hip,if_pos hW,if_pos hsm]
  have hwn:di ((bJ zs).1 - 1) []=true:=by simp [di]
  have hww:di ((bJ zs).1 - 1) (sV zs)=true:=by
   unfold di sV
   rw [Bool.and_eq_true,List.all_eq_true]
   refine ⟨decide_eq_true (by simp;omega),fun z hz=> ?_⟩
   obtain ⟨g,hg,rfl⟩:=List.mem_map.1 hz
   have:=List.mem_range.1 hg
   show kY (g:Int) 0 (((zs.length + 1:Nat):Int) - 1)=true
   exact fC.2 ⟨ae,ae⟩
  have e0:=hel _ hwn
  have ew:=hel _ hww
  rw [hr]
  refine ⟨e0, ?_, ?_,ew, ?_, ?_⟩
  ·unfold Jq
   rw [if_pos e0,hpn]
   have hB:u7 (oR zs) (uz (nV zs) (zs.length + 1) (oR zs)):=D1 h.leads Gp fP
   have hp:=BM D r1 h hN hB.l1
   have e:wU (bJ zs)=(uz (nV zs) (zs.length + 1) (oR zs)).1.map List.length:=rfl
   rw [e,CZ hp,Cd hp]
   exact eq_of_beq r2
  ·unfold I4
   rw [if_pos e0]
   show GZ (nV zs) (zs.length + 1) (oR zs)=sG zs
   unfold GZ sG
   refine List.map_congr_left fun i hi=> ?_
   unfold ou
   refine List.map_congr_left fun j hj=> ?_
   have hi:=List.mem_range.1 hi
   have hj:=List.mem_range.1 hj
   have:=GQ D h hN (w:= [i,j]) (by simp;omega)
   show kj (nV zs) [(i:Int),(j:Int)] (oR zs)=_
   have e2:=dH.1 (dH.1 r3 i hi) j hj
   rw [show [(i:Int),(j:Int)]= [i,j].map fun g:Nat=>(g:Int) from rfl,this,eq_of_beq e2]
  ·unfold I5
   rw [if_pos ew,hcn]
   have:=GQ D h hN (w:=List.range (zs.length + 1)) (fun g hg=>List.mem_range.1 hg)
   show kj (nV zs) (sV zs) (oR zs)=_
   unfold sV
   rw [this,eq_of_beq r4]
  ·unfold GI
   rw [if_pos e0]
   exact EG D h h4
def tM (zs:List Int) (i j:Nat):Int:=if i=j then 1 else if j=i + 1 then aC zs i else if i=j + 1 then aC zs j else 2
theorem Gv {zs:List Int} (hp:∀i,i < zs.length→0 < aC zs i) {i j:Nat} (hi:i < zs.length + 1) (hj:j < zs.length + 1):aC (bn (sG zs) i) j=tM zs i j:=by
 have e1:bn (sG zs) i=(List.range (zs.length + 1)).map fun j=>((F6 zs i j:Nat):Int):=by
  unfold sG
  rw [iB (by simpa using hi),List.getElem_map,List.getElem_range]
 rw [e1,cX (by simpa using hj),List.getElem_map,List.getElem_range]
 unfold F6 tM yU
 by_cases h:i=j
 ·rw [if_pos h,if_pos h];rfl
 ·rw [if_neg h,if_neg h]
  by_cases h1:j=i + 1
  ·rw [if_pos h1,if_pos h1];have:=hp i ae;omega
  ·rw [if_neg h1,if_neg h1]
   by_cases h2:i=j + 1
   ·rw [if_pos h2,if_pos h2];have:=hp j ae;omega
   ·rw [if_neg h2,if_neg h2];rfl
theorem xY (zs:List Int):(sG zs).length=zs.length + 1∧∀i,i < zs.length + 1→(bn (sG zs) i).length=zs.length + 1:=by
 refine ⟨by simp [sG],fun i hi=> ?_⟩
 unfold sG
 rw [iB (by simpa using hi),List.getElem_map];simp
end Go.Proofs.YtekbhbcgoadciaaGreat
namespace Go.Proofs.YtekbhbcgoadciaaGreat
open Go.RowKit
theorem vH (a b:Option Addr) (n ca cb:Nat) (zs:List Int) (w:World) (ha:dC w a n zs) (hb:dC w b n zs):
  Calls Tryz.prog 10 #[.slice a n ca, .slice b n cb] w fun e w'=>e= .returned (.bool true)∧∃m,w'=w.drewN m:=by
 have hla:=ha.2.1
 have hl':((n:Int) != (n:Int))=false:=by simp
 go_enter Tryz.func10,Tryz.ntmps10
 go_wp2
 go_loopw [5] (fun i wr=>∃k:Nat,k≤n∧i= .int .i64 k∧∃m,wr=w.drewN m) (fun i _=>n - (intOf i).toNat)
 case atStart=>exact ⟨0,Nat.zero_le _,rfl,0,rfl⟩
 case round=>
  obtain ⟨k,hk,rfl,m,rfl⟩:=hrel
  by_cases hlt:k < n
  ·obtain ⟨ba,oa,rfl,hca⟩:=ha.at_ hlt
   obtain ⟨bb,ob,rfl,hcb⟩:=hb.at_ hlt
   have he':(aC zs k != aC zs k)=false:=by simp
   go_wp2_with fail
   go_quiet (fail)
   go_wp2
   go_roundw
   case rel=>exact ⟨k + 1,ae,by go_num,_,rfl⟩
   case measure=>first | (simp [intOf];done) | (simp [intOf];omega)
  ·obtain rfl:k=n:=by omega
   go_wp2
   go_ret
   exact ⟨rfl,_,rfl⟩
end Go.Proofs.YtekbhbcgoadciaaGreat
namespace Go.Proofs.YtekbhbcgoadciaaGreat
open Go.RowKit
theorem EO {zs:List Int} (h:I2 zs):zs.length≤7:=by
 rcases h with h | ⟨ys,z,h,_,rfl⟩ | ⟨ys,h,rfl⟩<;>have:=qX h<;>simp<;>omega
def Bc (w:World) (e:Ending) (w':World):Prop:=∃(ao:Option Addr) (c:Nat) (zs:List Int),e= .returned (.slice ao zs.length c)∧I2 zs∧ff 2 w' w.heap.size w'.heap.size (.slice ao zs.length c) zs∧Below w.heap.size w w'
theorem yB (ao:Option Addr) (n c:Nat) (w:World) (h:C2 w ao n w.heap.size):Calls Tryz.prog 64 #[.slice ao n c] w (Bc w):=by
 go_enter Tryz.func64,Tryz.ntmps64
 go_wp2_with fail
 refine (E4 ao n c w h).mono ?_
 rintro e w1 ⟨rfl,s1,z1,b1⟩
 go_wp2_with fail
 refine (vJ _ w1 s1 z1).mono ?_
 rintro e w2 ⟨a2,n2,c2,zs,rfl,hA,o2,s2,O2⟩
 have hl:n2=zs.length:=by have:=o2.len;simpa using this.symm
 subst hl
 have OO:=Lib.hid o2
 have O2':=Lib.hid O2
 clear o2 O2
 go_wp2
 go_ret
 exact ⟨_,_,zs,rfl,hA,ff.of (OO.out.mono ae),b1.trans (O2'.out.below (Nat.le_refl _) ae)⟩
theorem yX (ao:Option Addr) (n c:Nat) (w:World) (h:C2 w ao n w.heap.size):Calls Tryz.prog 19 #[.slice ao n c] w (Bc w):=by
 go_enter Tryz.func19,Tryz.ntmps19
 go_wp2_with fail
 refine (yB ao n c w h).mono ?_
 rintro e w1 ⟨a2,c2,zs,rfl,hA,o,b⟩
 go_wp2
 go_ret
 exact ⟨_,_,zs,rfl,hA,o,b⟩
theorem zU {L:List Int} (h:∀z∈L,0≤z∧z≤100000):∀k,k≤L.length→0≤(L.take k).foldl (· + ·) 0∧(L.take k).foldl (· + ·) 0≤100000 * (k:Int)
 | 0,_=>by simp
 | k + 1,hk=>by
  have ih:=zU h k ae
  have hz:=h _ (List.getElem_mem (show k < L.length by omega))
  rw [List.take_add_one,List.getElem?_eq_getElem ae,List.foldl_append]
  show 0≤(L.take k).foldl (· + ·) 0 + L[k]∧(L.take k).foldl (· + ·) 0 + L[k]≤_
  omega
def J6 (L:List Int) (w:World) (e:Ending) (w':World):Prop:=e= .returned (.int .i64 (L.foldl (· + ·) 0))∧Below w.heap.size w w'
theorem Gl (ao:Option Addr) (n c:Nat) (L:List Int) (w:World) (h:dC w ao n L) (hn:n≤1000) (hz:∀z∈L,0≤z∧z≤100000):Calls Tryz.prog 28 #[.slice ao n c] w (J6 L w):=by
 have hl:=h.1
 subst hl
 go_enter Tryz.func28,Tryz.ntmps28
 go_wp2_with fail
 go_loop [3,4] (fun sv kv=>∃k:Nat,kv= .int .i64 k∧k≤L.length∧sv= .int .i64 ((L.take k).foldl (· + ·) 0)) (fun _ kv=>L.length - (intOf kv).toNat)
 case atStart=>exact ⟨0,rfl,ae,rfl⟩
 case round=>
  obtain ⟨k,rfl,hk,rfl⟩:=hrel
  by_cases hkl:k < L.length
  ·obtain ⟨b,off,hb,hc⟩:=h.at_ hkl
   subst hb
   have hs:=zU hz k hk
   have hs2:=zU hz (k + 1) ae
   have hx:(L.take (k + 1)).foldl (· + ·) 0=(L.take k).foldl (· + ·) 0 + aC L k:=by
    rw [List.take_add_one,List.getElem?_eq_getElem hkl,List.foldl_append,cX hkl];rfl
   rw [hx] at hs2
   have HX:=Lib.hid hx
   clear hx
   generalize aC L k=z at *
   generalize (L.take k).foldl (· + ·) 0=s at *
   have hw:IntKind.i64.wrap (s + z)=s + z:=IntWalk.i64_in _ ae
   go_wp2
   go_round
   case rel=>exact ⟨k + 1,by go_num,ae,by rw [HX.out]⟩
   case measure=>simp [intOf];omega
  ·obtain rfl:k=L.length:=by omega
   rw [List.take_length]
   go_wp2
   go_ret
   exact ⟨rfl,Below.refl _ _⟩
end Go.Proofs.YtekbhbcgoadciaaGreat
namespace Go.Proofs.YtekbhbcgoadciaaGreat
open Go.RowKit
theorem AX (ao:Option Addr) (n c:Nat) (w:World):Calls Tryz.prog 6 #[.slice ao n c] w fun e w'=>e= .returned (.bool (decide (4096 < n)))∧w'=w:=by
 by_cases h:4096 < n
 ·have e0:decide ((4096:Int) < n)=true:=by simp;omega
  go_enter Tryz.func6,Tryz.ntmps6
  go_wp2
  go_ret
  exact ⟨by simp [h],rfl⟩
 ·have e0:decide ((4096:Int) < n)=false:=by simp;omega
  go_enter Tryz.func6,Tryz.ntmps6
  go_wp2
  go_ret
  exact ⟨by simp [h],rfl⟩
end Go.Proofs.YtekbhbcgoadciaaGreat
namespace Go.Proofs.YtekbhbcgoadciaaGreat
open Go.RowKit
theorem pM {w:World} {v:Value} {zs:List Int} (h:Fe w v zs):∃ao c,v= .slice ao zs.length c:=by
 obtain ⟨ao,n,c,rfl,i⟩:=h
 have:=i.1
 subst this
 exact ⟨ao,c,rfl⟩
theorem qb {w:World} {ao:Option Addr} {n c:Nat} {zs:List Int} (h:Fe w (.slice ao n c) zs):dC w ao n zs:=by
 obtain ⟨ao',n',c',e,i⟩:=h
 injection e with e1 e2 e3
 subst e1 e2 e3
 exact i
theorem uL {E E':Nat} {lo hi lo' hi':Nat} {v v':Value} {zs:List Int} {w:World} (h:ff E w lo hi v zs) (h':ff E' w lo' hi' v' zs):Calls Tryz.prog 10 #[v,v'] w fun e w'=>e= .returned (.bool true)∧Below w.heap.size w w':=by
 obtain ⟨⟨a,n,c,rfl,o⟩,_⟩:=h
 obtain ⟨⟨a',n',c',rfl,o'⟩,_⟩:=h'
 have h1:zs.length=n:=by have:=o.len;simpa using this
 have h2:zs.length=n':=by have:=o'.len;simpa using this
 obtain rfl:n=n':=by omega
 refine (vH a a' n c c' zs w o.ints o'.ints).mono ?_
 rintro e w' ⟨rfl,m,rfl⟩
 exact ⟨rfl,below_drewN (Below.refl _ _) m⟩
theorem Cq {E1 E:Nat} {w:World} {lo hi:Nat} {v:Value} {d:du} (h:tE E1 E w lo hi v d):∃ao n c,v= .agg #[.int .i64 d.1, .slice ao n c]:=by
 obtain ⟨ao,n,c,us,rfl,_⟩:=h
 exact ⟨ao,n,c,rfl⟩
theorem En {zs:List Int} (hd:cw zs=true) {I:Nat} :sy zs I≤1000000000:=by
 have h1:=mU (oB (mask:=I) hd) _ (Nat.le_refl _)
 have h2:=mR (mask:=I) hd
 unfold sy
 have h3:32 ^ (eV zs I).length≤32 ^ 5:=Nat.pow_le_pow_right (by decide) ae
 have h4:(32:Nat) ^ 5=33554432:=rfl
 omega
theorem zg:∀g:Nat,g < 5→wrap64 (2 ^ (g + 1))=((2 ^ (g + 1):Nat):Int):=by decide +kernel
structure J0 (w wr:World) (hi pb:Nat) (v vd vq:Value) (zs:List Int) (ap:Option Addr) (np cp:Nat):Prop where
 lab:ff 2 wr w.heap.size hi v zs
 dgs:Fe wr vd (GH zs)
 pol:∃lo hi,hi≤wr.heap.size∧ff 2 wr lo hi vq (y5 zs)
 box:iX wr pb 46 #[.int .i64 (gP zs).1, .slice ap np cp]
 prs:∃lo hi,hi≤wr.heap.size∧tE 2 24 wr lo hi (.agg #[.int .i64 (gP zs).1, .slice ap np cp]) (gP zs)
 bel:Below w.heap.size w wr
 few:hi≤wr.heap.size
theorem J0.below {w wr w':World} {hi pb:Nat} {v vd vq:Value} {zs:List Int} {ap:Option Addr} {np cp:Nat} (h:J0 w wr hi pb v vd vq zs ap np cp) (hb:Below wr.heap.size wr w'):J0 w w' hi pb v vd vq zs ap np cp:=by
 obtain ⟨l1,h1,e1,p1⟩:=h.pol
 obtain ⟨l2,h2,e2,p2⟩:=h.prs
 have hz:=hb.size
 have hf:=h.few
 exact ⟨h.lab.below hb,h.dgs.below hb,⟨l1,h1,ae,p1.below hb⟩,h.box.mh hb,⟨l2,h2,ae,p2.below hb⟩,h.bel.trans (hb.mono h.bel.size),ae⟩
structure Js (w wr:World) (B hi pb:Nat) (v vq vl vo:Value) (zs:List Int) (ap:Option Addr) (np cp:Nat):Prop where
 lab:ff 2 wr w.heap.size hi v zs
 pol:∃lo hi,hi≤B∧ff 2 wr lo hi vq (y5 zs)
 len:∃lo hi,hi≤B∧ff 2 wr lo hi vl (y5 zs)
 ord:∃lo hi,hi≤B∧qS 2 24 wr lo hi vo (sG zs)
 box:iX wr pb 46 #[.int .i64 (gP zs).1, .slice ap np cp]
 prs:∃lo hi,hi≤B∧tE 2 24 wr lo hi (.agg #[.int .i64 (gP zs).1, .slice ap np cp]) (gP zs)
 bel:Below w.heap.size w wr
 CR:hi≤B∧pb < B∧w.heap.size≤B∧B≤wr.heap.size
theorem Js.only {w wr w':World} {B k hi pb:Nat} {v vq vl vo:Value} {zs:List Int} {ap:Option Addr} {np cp:Nat} (h:Js w wr B hi pb v vq vl vo zs ap np cp) (ho:fw B k wr w'):Js w w' B hi pb v vq vl vo zs ap np cp:=by
 obtain ⟨l1,h1,e1,p1⟩:=h.pol
 obtain ⟨l2,h2,e2,p2⟩:=h.prs
 obtain ⟨l3,h3,e3,p3⟩:=h.len
 obtain ⟨l4,h4,e4,p4⟩:=h.ord
 obtain ⟨b1,b2,b3,b4⟩:=h.CR
 exact ⟨h.lab.only ho (.inl b1),⟨l1,h1,e1,p1.only ho (.inl e1)⟩,⟨l3,h3,e3,p3.only ho (.inl e3)⟩,⟨l4,h4,e4,p4.only ho (.inl e4)⟩,h.box.only ho (.inl b2),⟨l2,h2,e2,p2.only ho (.inl e2)⟩,
  h.bel.trans (ho.below b3 h.bel.size),b1,b2,b3,Nat.le_trans b4 ho.size⟩
theorem j6 {w w':World} {lo hi:Nat} (h:Below w.heap.size w w'):fw lo hi w w':=⟨h.os,h.tape,h.output,h.size,fun k hk _=>h.block k hk⟩
theorem Co {w:World} {ao:Option Addr} {n c:Nat} {zss:List (List Int)} (h:Is w (.slice ao n c) zss) {j:Nat} (hj:j < n):∃b off a c',ao=some ⟨b,off,none⟩∧w.cell? ⟨b,off + j,none⟩=some (.slice a (bn zss j).length c')∧dC w a (bn zss j).length (bn zss j):=by
 obtain ⟨ao',n',c',e,i⟩:=h
 injection e with e1 e2 e3
 subst e1 e2 e3
 obtain ⟨b,off,e,hc⟩:=i.2.2 ae
 obtain ⟨u,hu,a,m,c2,rfl,hi⟩:=hc j hj
 have:=hi.1
 subst this
 exact ⟨b,off,a,c2,e,hu,hi⟩
theorem zD {w:World} {v:Value} {zss:List (List Int)} (h:Is w v zss):∃ao c,v= .slice ao zss.length c:=by
 obtain ⟨ao,n,c,rfl,i⟩:=h
 have:=i.1
 subst this
 exact ⟨ao,c,rfl⟩
def Fl (k:Nat):List Int:=(List.range k).map fun g:Nat=>(g:Int)
theorem Ct (k:Nat):Fl (k + 1)=Fl k ++ [(k:Int)]:=by unfold Fl;rw [List.range_succ,List.map_append];rfl
theorem vF {ao:Option Addr} {n c:Nat} (w:World) (h:C2 w ao n w.heap.size):
  Calls Tryz.prog 4 #[.slice ao n c] w fun e w'=>e= .returned (.bool true)∧Below w.heap.size w w':=by
 by_cases hbig:4096 < n
 ·have e0:decide (4096 < n)=true:=by simp;omega
  go_enter Tryz.func4,Tryz.ntmps4
  go_wp2_with (go_at_call 6;refine (AX ao n c w).mono ?_;rintro e w1 ⟨rfl,hw⟩;rw [hw,e0];clear hw w1)
  go_ret
  exact ⟨rfl,Below.refl _ _⟩
 ·have e0:decide (4096 < n)=false:=by simp;omega
  go_enter Tryz.func4,Tryz.ntmps4
  go_wp2_with (go_at_call 6;refine (AX ao n c w).mono ?_;rintro e w1 ⟨rfl,hw⟩;rw [hw,e0];clear hw w1)
  refine (yX ao n c w h).mono ?_
  rintro e w1 ⟨av,cv,zs,rfl,hA,o1,B1⟩
  clear hbig e0 h
  have HA:=Lib.hid hA
  have h7:=EO hA
  clear hA
  go_wp2_with fail
  refine (zc _ o1).mono ?_
  rintro e w2 ⟨vd,rfl,p2,b2⟩
  have z2:=b2.size
  have o2:=o1.below b2
  have B2:=B1.trans (b2.mono B1.size)
  clear o1 b2 B1
  go_wp2_with fail
  refine (zd _ o2).mono ?_
  rintro e w3 ⟨vd2,rfl,q3,b3⟩
  have z3:=b3.size
  have o3:=o2.below b3
  have p3:=p2.below b3
  have B3:=B2.trans (b3.mono B2.size)
  clear o2 p2 b3 B2
  have ec:(eY zs != eY zs)=false:=by simp
  go_wp2_with (go_at_call 10;refine (uL p3 q3).mono ?_;rintro e w4 ⟨rfl,b4⟩;have z4:=b4.size;have o4:=o3.below b4;have p4:=p3.below b4;have B4:=B3.trans (b4.mono B3.size);clear o3 p3 q3 b4 B3 ec)
  refine (vU _ o4).mono ?_
  rintro e w5 ⟨rfl,b5⟩
  have z5:=b5.size
  have o5:=o4.below b5
  have p5:=p4.below b5
  have B5:=B4.trans (b5.mono B4.size)
  clear o4 p4 b5 B4
  go_wp2_with fail
  refine (vE _ o5).mono ?_
  rintro e w6 ⟨rfl,b6⟩
  have z6:=b6.size
  have o6:=o5.below b6
  have p6:=p5.below b6
  have B6:=B5.trans (b6.mono B5.size)
  clear o5 p5 b6 B5
  have ek:(ja zs != ja zs)=false:=by simp
  have er:(ka zs != ka zs)=false:=by simp
  cases hd:cw zs with
  | false=>
   have h1:eY zs=1:=pg hd
   have h2:ja zs=1:=by unfold ja;rw [hd];rfl
   rw [h1,h2]
   clear h1 h2 ek hd
   go_wp2
   go_ret
   exact ⟨rfl,B6⟩
  | true=>
   have h2:ja zs=0:=by unfold ja;rw [if_pos hd]
   have hfc:eY zs=if gO zs (cB zs)=true then 0 else 5:=rT hd
   cases hf:gO zs (cB zs) with
   | false=>
    rw [hf,if_neg (by simp)] at hfc
    have hk:(ka zs != 0)=true:=by
     unfold gO at hf
     have:=of_decide_eq_false hf
     unfold ka
     rw [if_pos hd,bne_iff_ne]
     omega
    rw [hfc,h2]
    clear hfc h2 ek hd hf
    go_wp2
    go_ret
    exact ⟨rfl,B6⟩
   | true=>
    rw [hf,if_pos rfl] at hfc
    obtain ⟨wN,G⟩:=JR HA.out hd hf
    have h4:=c7 hd
    rw [hfc,h2,G.kind.1]
    have hwN:=En (I:=cB zs) hd
    rw [G.whole] at hwN
    have hor:DE zs ((cB zs:Nat):Int)=(wN:Int)∧gR zs ((cB zs:Nat):Int)=0:=by
     have hm:gR zs ((cB zs:Nat):Int)=0:=hfc
     refine ⟨?_,hm⟩
     unfold DE
     rw [if_pos hm,Int.toNat_natCast];exact G.whole
    have hwh:wrap64 (2 ^ (zs.length + 1))=((cB zs + 1:Nat):Int):=by
     rw [zg _ ae]
     have:=Nat.pow_pos (n:=zs.length + 1) (show 0 < 2 by decide)
     unfold cB;omega
    have hall:cB zs < 1000:=fM h4
    have hcx:wS zs=0:=by unfold wS;rw [if_pos hd]
    obtain ⟨A,hAe⟩:∃A,cB zs=A:=⟨_,rfl⟩
    have hda:=G.dgs.1
    rw [hAe] at hwh hall hor hda
    have HOR:=Lib.hid hor
    have HFC:=Lib.hid hfc
    have HDA:=Lib.hid hda
    have HCX:=Lib.hid hcx
    have HAE:=Lib.hid hAe
    have HDD:=Lib.hid hd
    have hdl:=G.dgs.2
    have hpin:=Lib.hid G.pin
    have G:=Lib.hid G
    clear hor hfc hda h2 hd hf hAe hcx ek er HA
    obtain ⟨ad,cd,rfl⟩:=pM p6.rd
    rw [hdl] at p6 ⊢
    have HDL:=Lib.hid hdl
    clear hdl
    have hw1:IntKind.i64.wrap (((A + 1:Nat):Int) - 1)=(A:Int):=by rw [IntWalk.i64_in _ ae];omega
    have hcu:IntKind.u64.wrap ((zs.length:Int) + 1)=(zs.length:Int) + 1:=by rw [IntKind.wrap_u64];omega
    go_wp2_with fail
    refine (AD _ _ o6).mono ?_
    rintro e w7 ⟨rfl,b7⟩
    rw [HOR.out.1,HOR.out.2]
    have z6b:=b7.size
    have o7:=o6.below b7
    have p7:=p6.below b7
    have B7:=B6.trans (b7.mono B6.size)
    clear o6 p6 b7 B6 hwh hw1
    go_wp2_with fail
    refine (Ai _ o7).mono ?_
    rintro e w8 ⟨vq,rfl,q8,b8⟩
    rw [HFC.out]
    have z8:=b8.size
    have z7:=B7.size
    have o8:=o7.below b8
    have p8:=p7.below b8
    have B8:=B7.trans (b8.mono B7.size)
    clear o7 p7 b8 B7
    go_wp2_with fail
    refine (zB _ o8).mono ?_
    rintro e w9 ⟨rfl,b9⟩
    rw [HFC.out]
    have z9:=b9.size
    have o9:=o8.below b9
    have p9:=p8.below b9
    have q9:=q8.below b9
    have B9:=B8.trans (b9.mono B8.size)
    clear o8 p8 q8 b9 B8
    go_wp2_with fail
    refine (qM _ o9.rd).mono ?_
    rintro e w10 ⟨vp,rfl,pp,b10⟩
    rw [HCX.out]
    obtain ⟨ap,np,cp,rfl⟩:=Cq pp
    have z10:=b10.size
    have o10:=o9.below b10
    have p10:=p9.below b10
    have q10:=q9.below b10
    have B10:=B9.trans (b10.mono B9.size)
    clear o9 p9 q9 b10 B9
    go_upto_region 19 with (fail)
    have bx:=below_alloc1 w10 (.cells #[.int .i64 (gP zs).1, .slice ap np cp] 46)
    have kb:iX (w10.alloc (.cells #[.int .i64 (gP zs).1, .slice ap np cp] 46)) w10.heap.size 46 #[.int .i64 (gP zs).1, .slice ap np cp]:=jK rfl
    generalize w10.alloc (.cells #[.int .i64 (gP zs).1, .slice ap np cp] 46)=w11 at *
    obtain ⟨aq,cq,rfl⟩:=pM q10.rd
    have S11:J0 w w11 w1.heap.size w10.heap.size (.slice av zs.length cv) (.slice ad (zs.length + 1) cd) (.slice aq (y5 zs).length cq) zs ap np cp:=
     ⟨o10.below bx,(p10.below bx).rd,⟨_,_,by have:=bx.size;omega,q10.below bx⟩,kb,⟨_,_,bx.size,pp.below bx⟩,B10.trans (bx.mono B10.size),by have:=bx.size;omega⟩
    have SS:=Lib.hid S11
    clear S11 o10 p10 q10 pp bx kb B10
    generalize w10.heap.size=pb at *
    have hq2:=CN zs
    go_upto_region 19 with (fail)
    go_wp2_with (go_at_call 28;obtain ⟨l8,h8, -,p8⟩:=SS.out.pol;refine (Gl _ _ _ (y5 zs) _ (qb p8.rd) ae hpin.out).mono ?_;rintro e w12 ⟨rfl,b12⟩;rw [G.out.psum];have S12:=Lib.hid (SS.out.below b12);clear b12 p8 SS)
    have hdA:eV zs A=GH zs:=HDA.out.symm
    have hin:=oB (mask:=A) HDD.out
    have hlen:(eV zs A).length=zs.length + 1:=by rw [hdA,HDL.out]
    have HP:=Lib.hid (mU hin)
    have HS:=Lib.hid (fun k (hk:k < (eV zs A).length)=>lV hk)
    have hints:dC w12 ad (zs.length + 1) (eV zs A):=by
     have:=qb S12.out.dgs
     rwa [←hdA] at this
    have HI:=Lib.hid hints
    have hend:fW (eV zs A) (zs.length + 1)=(wN:Int):=by
     have h1:=G.out.whole
     unfold sy at h1
     rw [HAE.out,hlen] at h1
     exact h1
    have HE:=Lib.hid hend
    have HLN:=Lib.hid hlen
    clear hdA hin hints hend hlen
    go_loop [21,22] (fun pv kv=>∃k:Nat,kv= .int .i64 k∧k≤zs.length + 1∧pv= .int .i64 (fW (eV zs A) k)) (fun _ kv=>zs.length + 1 - (intOf kv).toNat)
    case atStart=>exact ⟨0,rfl,ae,rfl⟩
    case round=>
     obtain ⟨k,rfl,hk,rfl⟩:=hrel
     by_cases hkl:k < zs.length + 1
     ·obtain ⟨b,off,hb,hc⟩:=HI.out.at_ hkl
      subst hb
      have hsc:=HS.out k (by rw [HLN.out];exact hkl)
      have hpb:=HP.out (k + 1) (by rw [HLN.out];omega)
      rw [hsc] at hpb
      have h32:32 ^ (k + 1)≤32 ^ 5:=Nat.pow_le_pow_right (by decide) ae
      have h33:(32:Nat) ^ 5=33554432:=rfl
      rw [h33] at h32
      generalize 32 ^ (k + 1)=M at *
      have HSC:=Lib.hid hsc
      clear hsc h33
      generalize aC (eV zs A) k=z at *
      generalize fW (eV zs A) k=s at *
      have hw:IntKind.i64.wrap (s * z)=s * z:=IntWalk.i64_in _ ae
      go_wp2
      go_round
      case rel=>exact ⟨k + 1,by go_num,ae,by rw [HSC.out]⟩
      case measure=>simp [intOf];omega
     ·obtain rfl:k=zs.length + 1:=by omega
      rw [HE.out]
      have x0:=S12.out.box.cell 0
      have x1:=S12.out.box.cell 1
      simp at x0 x1
      go_wp2_with fail
      obtain ⟨l2,h2, -,p2⟩:=S12.out.prs
      refine (tW _ p2).mono ?_
      rintro e w13 ⟨rfl,b13⟩
      have S13:=Lib.hid (S12.out.below b13)
      have y0:=S13.out.box.cell 0
      have y1:=S13.out.box.cell 1
      simp at y0 y1
      clear b13 p2 x0 x1
      go_wp2_with fail
      obtain ⟨l3,h3, -,p3⟩:=S13.out.prs
      refine (tI _ p3).mono ?_
      rintro e w14 ⟨rfl,b14⟩
      have S14:=Lib.hid (S13.out.below b14)
      have x0:=S14.out.box.cell 0
      have x1:=S14.out.box.cell 1
      simp at x0 x1
      clear b14 p3 y0 y1 S13
      have hix:=G.out.idx
      have hfw:=G.out.few
      obtain ⟨C,hC⟩:∃C,nU (gP zs) []=C:=⟨_,rfl⟩
      obtain ⟨R,hR⟩:∃R,qO (gP zs) []=R:=⟨_,rfl⟩
      rw [hC] at hix hfw
      rw [hR] at hix
      rw [hC,hR]
      clear hC hR
      have g1:(C != C)=false:=by simp
      have hbel:=S14.out.bel
      by_cases hC0:C=0
      ·obtain rfl:=hix hC0
       subst hC0
       by_cases h400:wN≤400
       ·have FW:=Lib.hid (hfw rfl h400)
        clear hfw hix g1
        go_wp2_with fail
        obtain ⟨l4,h4', -,p4⟩:=S14.out.prs
        refine (zF _ p4).mono ?_
        rintro e w15 ⟨vl,rfl,pl,b15⟩
        rw [FW.out.1]
        rw [FW.out.2.1] at pl
        have S15:=Lib.hid (S14.out.below b15)
        have y0:=S15.out.box.cell 0
        have y1:=S15.out.box.cell 1
        simp at y0 y1
        clear b15 p4 x0 x1 S14 hbel
        go_wp2_with fail
        obtain ⟨l5,h5', -,p5⟩:=S15.out.prs
        refine (zO _ p5).mono ?_
        rintro e w16 ⟨vo,rfl,po,b16⟩
        rw [FW.out.1]
        rw [FW.out.2.2.1] at po
        have S16:=S15.out.below b16
        have z16:=b16.size
        have V16:Js w w16 w16.heap.size w1.heap.size pb (.slice av zs.length cv) (.slice aq (y5 zs).length cq) vl vo zs ap np cp:=by
         obtain ⟨l6,h6,e6,q6⟩:=S16.pol
         obtain ⟨l7,h7',e7,q7⟩:=S16.prs
         exact ⟨S16.lab,⟨l6,h6,e6,q6⟩,⟨_,_,z16,pl.below b16⟩,⟨_,_,Nat.le_refl _,po⟩,S16.box,⟨l7,h7',e7,q7⟩,S16.bel,S16.few,S16.box.lt,S16.bel.size,Nat.le_refl _⟩
        have VV:=Lib.hid V16
        clear b16 p5 y0 y1 S15 S16 V16 pl po
        obtain ⟨ao2,co2,rfl⟩:=zD (by obtain ⟨_,_,_,q⟩:=VV.out.ord;exact q.rd)
        obtain ⟨al,cl,rfl⟩:=pM (by obtain ⟨_,_,_,q⟩:=VV.out.len;exact q.rd)
        rw [(xY zs).1] at VV ⊢
        go_upto_region 35 with (fail)
        have P0:Own (w16.alloc (.cells #[] 2)) w16.heap.size 2 (some ⟨w16.heap.size,0,none⟩) 0 0 []:=Own.lf w16 2 (Nat.le_refl _)
        have V17:=Lib.hid (VV.out.only (j6 (lo:=w16.heap.size) (hi:=0) (below_alloc1 w16 (.cells #[] 2))))
        generalize w16.alloc (.cells #[] 2)=w17 at *
        generalize w16.heap.size=B at *
        have PP:=Lib.hid P0
        clear P0 VV
        go_wp2_with fail
        go_loopw [31,32] (fun ov kv wr=>∃(k:Nat) (a:Option Addr) (c:Nat),kv= .int .i64 k∧ov= .slice a k c∧k≤zs.length + 1∧Own wr B 2 a k c ((Fl k).map (Value.int .i64))∧Js w wr B w1.heap.size pb (.slice av zs.length cv) (.slice aq (y5 zs).length cq) (.slice al (y5 zs).length cl) (.slice ao2 (zs.length + 1) co2) zs ap np cp) (fun _ kv _=>zs.length + 1 - (intOf kv).toNat)
        case atStart=>exact ⟨0,_,_,rfl,rfl,ae,PP.out,V17.out⟩
        case round=>
         clear PP V17
         obtain ⟨k,a,c3,rfl,rfl,hk,ho,vv⟩:=hrel
         have hol:=ho.lt
         have hbb:=vv.CR.2.2.2
         have P5:=Lib.hid ho
         have VV:=Lib.hid vv
         clear ho vv
         by_cases hkl:k < zs.length + 1
         ·go_wp2_with (at_builtin;refine lC Fh _ rfl _ _ rfl B a k c3 _ rfl P5.out (.int .i64 k) rfl rfl ae hbb ?_;intro ao3 c4 w18 ho2 hg2 hblk)
          have V18:=VV.out.only (fw.Da (lo:=B) (hi:=wr.heap.size) hg2 (fun g hg=>hol g hg))
          have HO:=Lib.hid ho2
          clear ho2 hg2 hblk P5 VV hol hbb
          go_wp2_with fail
          go_roundw
          case rel=>exact ⟨k + 1,ao3,c4,by go_num,rfl,ae,by rw [Ct,List.map_append];exact HO.out,V18⟩
          case measure=>first | (simp [intOf];done) | (simp [intOf];omega)
         ·obtain rfl:k=zs.length + 1:=by omega
          have x0:=VV.out.box.cell 0
          have x1:=VV.out.box.cell 1
          simp at x0 x1
          go_wp2_with fail
          obtain ⟨l7,h7', -,p7⟩:=VV.out.prs
          refine (Ah (W:=sV zs) _ p7 (ff.of P5.out)).mono ?_
          rintro e w19 ⟨rfl,b19⟩
          rw [FW.out.2.2.2.1,FW.out.2.2.2.2.1]
          have V19:=Lib.hid (VV.out.only (j6 (lo:=B) (hi:=0) b19))
          have y0:=V19.out.box.cell 0
          have y1:=V19.out.box.cell 1
          simp at y0 y1
          clear b19 p7 x0 x1 VV P5 hol
          go_wp2_with fail
          obtain ⟨l8,h8', -,p8⟩:=V19.out.prs
          refine (zP _ p8).mono ?_
          rintro e w20 ⟨rfl,b20⟩
          rw [FW.out.2.2.2.2.2]
          have V20:=Lib.hid (V19.out.only (j6 (lo:=B) (hi:=0) b20))
          have hcc:(oh zs != oh zs)=false:=by simp
          clear b20 p8 y0 y1 V19 hbb
          obtain ⟨l9,h9', -,p9⟩:=V20.out.pol
          obtain ⟨l10,h10', -,p10⟩:=V20.out.len
          have P9:=Lib.hid p9
          have P10:=Lib.hid p10
          clear p9 p10
          go_wp2_with (go_at_call 10;refine (uL P10.out P9.out).mono ?_;rintro e w21 ⟨rfl,b21⟩;have V21:=Lib.hid (V20.out.only (j6 (lo:=B) (hi:=0) b21));clear b21 V20)
          have hord:=(V21.out.ord)
          obtain ⟨l11,h11', -,po⟩:=hord
          have PO:=Lib.hid po.rd
          have IL:=Lib.hid (qb V21.out.lab.rd)
          have hpos:=Lib.hid G.out.pos
          have hbel:=V21.out.bel
          clear po V21 P9 P10 hcc FW
          go_loop [38] (fun iv=>∃i:Nat,iv= .int .i64 i∧i≤zs.length + 1) (fun iv=>zs.length + 1 - (intOf iv).toNat)
          case atStart=>exact ⟨0,rfl,ae⟩
          case round=>
           obtain ⟨i,rfl,hi⟩:=hrel
           by_cases hil:i < zs.length + 1
           ·obtain ⟨rb,ro,ra,rc,hro,hrc,hri⟩:=Co PO.out hil
            subst hro
            rw [(xY zs).2 i hil] at hrc hri
            have RI:=Lib.hid hri
            clear hri
            go_wp2_with fail
            go_loop [39] (fun jv=>∃j:Nat,jv= .int .i64 j∧j≤zs.length + 1) (fun jv=>zs.length + 1 - (intOf jv).toNat)
            case atStart=>exact ⟨0,rfl,ae⟩
            case round=>
             obtain ⟨j,rfl,hj⟩:=hrel
             by_cases hjl:j < zs.length + 1
             ·obtain ⟨xb,xo,hxa,hxc⟩:=RI.out.at_ hjl
              rw [Gv hpos.out hil hjl] at hxc
              subst hxa
              by_cases h1:i=j
              ·have e1:((i:Int) == (j:Int))=true:=by rw [h1];simp
               have hv:tM zs i j=1:=by unfold tM;rw [if_pos h1]
               rw [hv] at hxc
               clear h1 hv
               go_wp2
               go_round
               case rel=>exact ⟨j + 1,by go_num,ae⟩
               case measure=>simp [intOf];omega
              ·have e1:((i:Int) == (j:Int))=false:=by rw [beq_eq_false_iff_ne];omega
               by_cases h2:j=i + 1
               ·obtain ⟨lb,lo',hla,hlc⟩:=IL.out.at_ (k:=i) ae
                have hv:tM zs i j=aC zs i:=by unfold tM;rw [if_neg h1,if_pos h2]
                rw [hv] at hxc
                have e2:((j:Int) == (i:Int) + 1)=true:=by rw [h2];simp
                have hlt:i < zs.length:=by omega
                subst hla
                clear h1 h2 hv
                generalize aC zs i=x at *
                go_wp2
                go_round
                case rel=>exact ⟨j + 1,by go_num,ae⟩
                case measure=>simp [intOf];omega
               ·have e2:((j:Int) == (i:Int) + 1)=false:=by rw [beq_eq_false_iff_ne];omega
                by_cases h3:i=j + 1
                ·obtain ⟨lb,lo',hla,hlc⟩:=IL.out.at_ (k:=j) ae
                 have hv:tM zs i j=aC zs j:=by unfold tM;rw [if_neg h1,if_neg h2,if_pos h3]
                 rw [hv] at hxc
                 have e3:((i:Int) == (j:Int) + 1)=true:=by rw [h3];simp
                 have hlt:j < zs.length:=by omega
                 subst hla
                 clear h1 h2 h3 hv
                 generalize aC zs j=x at *
                 go_wp2
                 go_round
                 case rel=>exact ⟨j + 1,by go_num,ae⟩
                 case measure=>simp [intOf];omega
                ·have e3:((i:Int) == (j:Int) + 1)=false:=by rw [beq_eq_false_iff_ne];omega
                 have hv:tM zs i j=2:=by unfold tM;rw [if_neg h1,if_neg h2,if_neg h3]
                 rw [hv] at hxc
                 clear h1 h2 h3 hv
                 go_wp2
                 go_round
                 case rel=>exact ⟨j + 1,by go_num,ae⟩
                 case measure=>simp [intOf];omega
             ·obtain rfl:j=zs.length + 1:=by omega
              go_wp2
              go_round
              case rel=>exact ⟨i + 1,by go_num,ae⟩
              case measure=>simp [intOf];omega
           ·obtain rfl:i=zs.length + 1:=by omega
            go_wp2
            go_ret
            exact ⟨rfl,hbel⟩
       ·have g4:decide ((wN:Int) > 400)=true:=by simp;omega
        clear hfw hix g1
        go_wp2
        go_ret
        exact ⟨rfl,hbel⟩
      ·have g5:(C != 0)=true:=by simpa using hC0
       clear hix hfw hC0
       go_wp2
       go_ret
       exact ⟨rfl,hbel⟩
end Go.Proofs.YtekbhbcgoadciaaGreat
