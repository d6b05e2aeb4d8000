/- slices.SortStableFunc at []int64 with the program's comparison of masks: the insertion sort of a part, in words. -/
import Derived.Test.YtekbhbcgoadciaaGreatPart6
import Derived.Test.YtekbhbcgoadciaaGreatPart3
namespace Go.Proofs.YtekbhbcgoadciaaGreat
open Go.RowKit
abbrev gR:Value:= .func (.func 112) #[] #[]
set_option maxHeartbeats 1600000 in
theorem ix (key:Int→Nat) (ao:Option Addr) (n c a b:Nat) (zs:List Int) (w:World) (base:Nat) (h:Own w base 2 ao n c (zs.map (Value.int .i64))) (hn:n≤1000) (hab:a≤b) (hb:b≤n) (hr:nq zs) (hag:nI key eE zs a b):
  Calls Tryz.prog 157 #[.slice ao n c, .int .i64 a, .int .i64 b,gR] w fun e w'=>e= .returned (.tuple #[])∧∃zt,(Kept zs zt a b∧fS key zt a b)∧Own w' base 2 ao n c (zt.map (Value.int .i64))∧w.grownBy w' (bk ao):=by
 have hl:zs.length=n:=by have:=h.len;simpa using this
 have HL:=Lib.hid hl
 have HRG:=Lib.hid hr
 have HAG:=Lib.hid hag
 clear hl hr hag
 have e0:IntKind.i64.wrap ((a:Int) + 1)=((a + 1:Nat):Int):=by rw [IntWalk.i64_in _ (by omega)];omega
 go_enter Tryz.func157,Tryz.ntmps157
 go_wp2
 go_loopw [8] (fun i wr=>∃(k:Nat) (cur:List Int),a + 1≤k∧(cur=zs∧k=a + 1∨k≤b)∧i= .int .i64 k∧Kept zs cur a k∧fS key cur a k∧Own wr base 2 ao n c (cur.map (Value.int .i64))∧w.grownBy wr (bk ao)) (fun i _=>(n - intOf i).toNat)
 case atStart=>exact ⟨a + 1,zs,Nat.le_refl _, .inl ⟨rfl,rfl⟩,by go_num,Kept.refl _ _ _,fS.short (Nat.le_refl _),h,World.grownBy.refl _ _⟩
 case round=>
  obtain ⟨k,cur0,hk1,hk,rfl,hkp,hca,ho,hg⟩:=hrel
  have HK:=Lib.hid hkp
  have HA:=Lib.hid hca
  have HO0:=Lib.hid ho
  have HG0:=Lib.hid hg
  have HKK:=Lib.hid hk
  clear hkp hca ho hg hk e0
  by_cases hlt:k < b
  ·go_wp2_with fail
   go_loopw [9] (fun i wr=>∃(j:Nat) (cur:List Int),a≤j∧j≤k∧i= .int .i64 j∧Dn cur0 cur j k∧(∀h,j≤h→h < k→key (aC cur0 k)≤key (aC cur0 h))∧Own wr base 2 ao n c (cur.map (Value.int .i64))∧w.grownBy wr (bk ao)) (fun i _=>(intOf i).toNat)
   case atStart=>exact ⟨k,cur0,by omega,Nat.le_refl _,rfl,Dn.refl _ _,fun h h1 h2=>by omega,HO0.out,HG0.out⟩
   case round=>
    clear HO0 HG0
    obtain ⟨j,cur,hj1,hj,rfl,hd,hhi,ho,hg⟩:=hrel
    have HD:=Lib.hid hd
    have HHI:=Lib.hid hhi
    have HO:=Lib.hid ho
    have HG:=Lib.hid hg
    clear hd hhi ho hg
    have H0:cur0.length=n:=HK.out.len.trans HL.out
    have HC:cur.length=n:=HD.out.kept.len.trans H0
    have HC:=Lib.hid HC
    have H0:=Lib.hid H0
    have hr:nq cur:=(HRG.out.perm HK.out.perm).perm HD.out.kept.perm
    have HR:=Lib.hid hr
    clear hr
    by_cases hj0:a < j
    ·obtain ⟨i,hij⟩:∃i,j=i + 1:=⟨j - 1,by omega⟩
     obtain ⟨g,rfl, -,hgl, -, -, -⟩:=HO.out.form (by omega)
     have hjn:j < n:=by omega
     have hin:i < n:=by omega
     have hc1:=cS HO.out hjn
     have hc2:=cS HO.out hin
     have hS:∀w',Below wr.heap.size wr w'→(w'.cell? ⟨g,j,none⟩=some (.int .i64 (aC cur j))∧w'.cell? ⟨g,i,none⟩=some (.int .i64 (aC cur i))):=fun w' hb=>⟨(hb.cell (p:=⟨g,j,none⟩) (World.block_lt_of_cell? wr _ hc1)).trans hc1,(hb.cell (p:=⟨g,i,none⟩) (World.block_lt_of_cell? wr _ hc2)).trans hc2⟩
     have HS:=Lib.hid hS
     clear hS
     have e1:((j:Int) - 1)=(i:Int):=by omega
     have e2:IntKind.i64.wrap (i:Int)=(i:Int):=IntWalk.i64_in _ (by omega)
     have hkey:(eE (aC cur j) (aC cur i)=true↔key (aC cur0 k) < key (aC cur0 i)):=by
      rw [HD.out.at_,HD.out.kept.out i (by omega)]
      obtain ⟨y,y1,y2,y3⟩:=HK.out.mem i (by omega) (by omega)
      rw [HK.out.out k (by omega),y3]
      exact HAG.out y k y1 y2 hlt
     have HKEY:=Lib.hid hkey
     have HIJ:=Lib.hid hij
     obtain ⟨cz,hcz⟩:∃cz,nF (aC cur j) (aC cur i)=cz:=⟨_,rfl⟩
     have hlz:eE (aC cur j) (aC cur i)=decide (cz < 0):=by unfold eE;rw [hcz]
     have HCZ:=Lib.hid hcz
     have HLZ:=Lib.hid hlz
     clear hij hkey hcz hlz
     by_cases hlt2:cz < 0
     ·clear hc1 hc2
      go_wp2_with fail
      (refine cP (by kernel_rfl) (by kernel_rfl) ?_;(repeat (first | go_big_quiet_skip | (go_big_quiet_want;first | (go_big_quiet_op;go_big_quiet_on) | (apply dX;(· (intro _ hw;have f1:=(HS.out _ hw).1;have f0:=(HS.out _ hw).2;go_simp;exact rfl));go_simp;go_big_quiet_on) | (apply dA;(· (intro _ _;go_simp;exact ⟨rfl,rfl⟩));(· (intro _ hw;go_at_call 112;refine (jy HR.out j i _).mono ?_;rintro e w2 ⟨rfl,rfl⟩;rw [HCZ.out];exact ⟨rfl,hw⟩));go_simp;go_big_quiet_on))));refine wpQuiet_nil ?_;intro wq bq)
      have b3:=bq
      clear bq
      have ho:=HO.out.below b3
      have hg3:=bO HG.out (cN b3 (bk (some ⟨g,0,none⟩)))
      have HG3:=Lib.hid hg3
      have hc1:=cS ho hjn
      have hc2:=cS ho hin
      have hf1:=ho.1.frozenAt j
      have hf2:=ho.1.frozenAt i
      have ho1:Own wq.drew base 2 (some ⟨g,0,none⟩) n c (cur.map (Value.int .i64)):=ho
      obtain ⟨s1,t1⟩:=ho1.stored j (.int .i64 (aC cur i))
      obtain ⟨s2,t2⟩:=s1.stored i (.int .i64 (aC cur j))
      have S2:=Lib.hid s2
      have T1:=Lib.hid t1
      have T2:=Lib.hid t2
      clear s1 t1 s2 t2 ho1 ho hg3 b3
      go_wp2_with fail
      go_region
      go_wp2
      go_roundw
      case rel=>
       obtain rfl:=HIJ.out
       have hky:=HKEY.out.1 (by rw [HLZ.out];exact decide_eq_true hlt2)
       refine ⟨i,swp cur (i + 1) i,by omega,by omega,by go_num,HD.out.step (by omega) (by have:=H0.out;omega),fun h h1 h2=> ?_, ?_, ?_⟩
       ·by_cases e:h=i
        ·rw [e];omega
        ·exact HHI.out h (by omega) h2
       ·unfold swp;rw [List.map_set,List.map_set];exact S2.out
       ·exact bO HG3.out (bO (⟨rfl,rfl,rfl,Nat.le_refl _,fun _ _ _=>rfl⟩:wq.grownBy wq.drew _) (bO T1.out T2.out))
      case measure=>have:=HIJ.out;simp [intOf];omega
     ·clear hc1 hc2
      go_wp2_with fail
      (refine cP (by kernel_rfl) (by kernel_rfl) ?_;(repeat (first | go_big_quiet_skip | (go_big_quiet_want;first | (go_big_quiet_op;go_big_quiet_on) | (apply dX;(· (intro _ hw;have f1:=(HS.out _ hw).1;have f0:=(HS.out _ hw).2;go_simp;exact rfl));go_simp;go_big_quiet_on) | (apply dA;(· (intro _ _;go_simp;exact ⟨rfl,rfl⟩));(· (intro _ hw;go_at_call 112;refine (jy HR.out j i _).mono ?_;rintro e w2 ⟨rfl,rfl⟩;rw [HCZ.out];exact ⟨rfl,hw⟩));go_simp;go_big_quiet_on))));refine wpQuiet_nil ?_;intro wq bq)
      go_wp2_with fail
      go_roundw
      case rel=>
       obtain rfl:=HIJ.out
       have hky:¬key (aC cur0 k) < key (aC cur0 i):=fun e=>by
        have:=HKEY.out.2 e
        rw [HLZ.out] at this
        have:=of_decide_eq_true this;omega
       obtain ⟨d1,d2⟩:=pq HD.out hj1 hj HA.out (.inr (by rw [show i + 1 - 1=i by omega];omega)) HHI.out
       exact ⟨k + 1,cur,by omega, .inr (by omega),by go_num,(HK.out.wide (Nat.le_refl _) (by omega)).trans d1,d2,HO.out.below bq,bO HG.out (cN bq _)⟩
      case measure=>simp [intOf];omega
    ·obtain rfl:j=a:=by omega
     go_wp2_with fail
     (refine cP (by kernel_rfl) (by kernel_rfl) ?_;(repeat (first | go_big_quiet_skip | (go_big_quiet_want;first | (go_big_quiet_op;go_big_quiet_on) | (apply dX;(· (intro _ hw;skip;go_simp;exact rfl));go_simp;go_big_quiet_on) | (apply dA;(· (intro _ _;go_simp;exact ⟨rfl,rfl⟩));(· (intro _ hw;fail));go_simp;go_big_quiet_on))));refine wpQuiet_nil ?_;intro wq bq)
     go_wp2_with fail
     go_roundw
     case rel=>
      obtain ⟨d1,d2⟩:=pq HD.out hj1 hj HA.out (.inl rfl) HHI.out
      exact ⟨k + 1,cur,by omega, .inr (by omega),by go_num,(HK.out.wide (Nat.le_refl _) (by omega)).trans d1,d2,HO.out.below bq,bO HG.out (cN bq _)⟩
     case measure=>simp [intOf];omega
  ·go_wp2
   go_end0
   rcases HKK.out with ⟨rfl,e⟩ | e
   ·exact ⟨rfl,cur0,⟨Kept.refl _ _ _,fS.short (by omega)⟩,HO0.out,HG0.out⟩
   ·obtain rfl:k=b:=by omega
    exact ⟨rfl,cur0,⟨HK.out,HA.out⟩,HO0.out,HG0.out⟩
end Go.Proofs.YtekbhbcgoadciaaGreat
namespace Go.Proofs.YtekbhbcgoadciaaGreat
open Go.RowKit
abbrev kh (key:Int→Nat) (zs:List Int) (a b:Nat) (ao:Option Addr) (n c base:Nat) (w w':World):Prop:=
 ∃zt,(Kept zs zt a b∧fS key zt a b)∧Own w' base 2 ao n c (zt.map (Value.int .i64))∧w.grownBy w' (bk ao)
set_option maxRecDepth 100000 in
set_option maxHeartbeats 3200000 in
theorem uW (key:Int→Nat) (g n c a b:Nat) (zs:List Int) (w:World) (base:Nat) (h:Own w base 2 (some ⟨g,0,none⟩) n c (zs.map (Value.int .i64))) (hn:n≤1000) (hmb:a + 1 < b) (hb:b≤n) (hr:nq zs)
  (hB:fS key zs (a + 1) b) (hag:s9 key eE zs a (a + 1) b):
  Calls Tryz.prog 158 #[.slice (some ⟨g,0,none⟩) n c, .int .i64 a, .int .i64 (a + 1:Nat), .int .i64 b,gR] w fun e w'=>e= .returned (.tuple #[])∧kh key zs a b (some ⟨g,0,none⟩) n c base w w':=by
 have hl:zs.length=n:=by have:=h.len;simpa using this
 have HL:=Lib.hid hl
 have HR:=Lib.hid hr
 have HB:=Lib.hid hB
 have HAG:=Lib.hid hag
 clear hl hr hB hag
 have HB':=HB
 obtain ⟨m,hm⟩:∃m,a + 1=m:=⟨_,rfl⟩
 rw [hm]
 have e0:(m:Int) - (a:Int)=1:=by omega
 go_enter Tryz.func158,Tryz.ntmps158
 go_wp2_with fail
 go_loopw [10,11] (fun x y wr=>∃(i j:Nat),m≤i∧i≤j∧j≤b∧x= .int .i64 i∧y= .int .i64 j∧(∀h,m≤h→h < i→key (aC zs h)≤key (aC zs a))∧(∀h,j≤h→h < b→key (aC zs a)≤key (aC zs h))∧Own wr base 2 (some ⟨g,0,none⟩) n c (zs.map (Value.int .i64))∧w.grownBy wr (some g)) (fun x y _=>(intOf y - intOf x).toNat)
 case atStart=>exact ⟨m,b,Nat.le_refl _,by omega,Nat.le_refl _,rfl,rfl,fun h h1 h2=>by omega,fun h h1 h2=>by omega,h,World.grownBy.refl _ _⟩
 case round=>
  obtain ⟨i,j,hi,hij,hj,rfl,rfl,hlo,hhi,ho,hg⟩:=hrel
  have HLO:=Lib.hid hlo
  have HHI:=Lib.hid hhi
  have HO:=Lib.hid ho
  have HG:=Lib.hid hg
  clear hlo hhi ho hg e0
  by_cases hlt:i < j
  ·obtain ⟨h,hh⟩:∃h,(i + j) / 2=h:=⟨_,rfl⟩
   have hh1:i≤h:=by omega
   have hh2:h < j:=by omega
   have e1:((i:Int) + (j:Int)) / 2=(h:Int):=by omega
   clear hh
   have hxn:h < n:=by omega
   have hyn:a < n:=by omega
   have hc1:=cS HO.out hxn
   have hc2:=cS HO.out hyn
   have hS:∀w',Below wr.heap.size wr w'→(w'.cell? ⟨g,h,none⟩=some (.int .i64 (aC zs (h)))∧w'.cell? ⟨g,a,none⟩=some (.int .i64 (aC zs (a)))):=fun w' hb=>⟨(hb.cell (p:=⟨g,h,none⟩) (World.block_lt_of_cell? wr _ hc1)).trans hc1,(hb.cell (p:=⟨g,a,none⟩) (World.block_lt_of_cell? wr _ hc2)).trans hc2⟩
   have HS:=Lib.hid hS
   clear hS hc1 hc2
   obtain ⟨cz,hcz⟩:∃cz,nF (aC zs (h)) (aC zs (a))=cz:=⟨_,rfl⟩
   have hlz:eE (aC zs (h)) (aC zs (a))=decide (cz < 0):=by unfold eE;rw [hcz]
   have HCZ:=Lib.hid hcz
   have HLZ:=Lib.hid hlz
   clear hcz hlz
   have hk:(eE (aC zs h) (aC zs a)=true↔key (aC zs h) < key (aC zs a)):=HAG.out a h (Nat.le_refl _) (by omega) (by omega) (by omega)
   rw [HLZ.out,decide_eq_true_iff] at hk
   have HK:=Lib.hid hk
   clear hk
   by_cases hlt2:cz < 0
   ·go_wp2_with fail
    (refine cP (by kernel_rfl) (by kernel_rfl) ?_;(repeat (first | go_big_quiet_skip | (go_big_quiet_want;first | (go_big_quiet_op;go_big_quiet_on) | (apply dX;(· (intro _ hw;have f1:=(HS.out _ hw).1;have f0:=(HS.out _ hw).2;go_simp;exact rfl));go_simp;go_big_quiet_on) | (apply dA;(· (intro _ _;go_simp;exact ⟨rfl,rfl⟩));(· (intro _ hw;go_at_call 112;refine (jy HR.out h a _).mono ?_;rintro e w2 ⟨rfl,rfl⟩;rw [HCZ.out];exact ⟨rfl,hw⟩));go_simp;go_big_quiet_on))));refine wpQuiet_nil ?_;intro wq bq)
    go_wp2_with fail
    go_roundw
    case rel=>
     have hk:=HK.out.1 hlt2
     refine ⟨h + 1,j,by omega,by omega,hj,by go_num,rfl,fun t t1 t2=> ?_,HHI.out,HO.out.below bq,bO HG.out (cN bq _)⟩
     by_cases e:t=h
     ·rw [e];omega
     ·exact Nat.le_trans (HB.out t h (by omega) (by omega) (by omega)) (Nat.le_of_lt hk)
    case measure=>simp [intOf];omega
   ·go_wp2_with fail
    (refine cP (by kernel_rfl) (by kernel_rfl) ?_;(repeat (first | go_big_quiet_skip | (go_big_quiet_want;first | (go_big_quiet_op;go_big_quiet_on) | (apply dX;(· (intro _ hw;have f1:=(HS.out _ hw).1;have f0:=(HS.out _ hw).2;go_simp;exact rfl));go_simp;go_big_quiet_on) | (apply dA;(· (intro _ _;go_simp;exact ⟨rfl,rfl⟩));(· (intro _ hw;go_at_call 112;refine (jy HR.out h a _).mono ?_;rintro e w2 ⟨rfl,rfl⟩;rw [HCZ.out];exact ⟨rfl,hw⟩));go_simp;go_big_quiet_on))));refine wpQuiet_nil ?_;intro wq bq)
    go_wp2_with fail
    go_roundw
    case rel=>
     have hk:key (aC zs a)≤key (aC zs h):=Nat.le_of_not_lt fun e=>absurd (HK.out.2 e) (by omega)
     refine ⟨i,h,hi,by omega,by omega,rfl,rfl,HLO.out,fun t t1 t2=> ?_,HO.out.below bq,bO HG.out (cN bq _)⟩
     by_cases e:t=h
     ·rw [e];exact hk
     ·exact Nat.le_trans hk (HB.out h t (by omega) (by omega) (by omega))
    case measure=>simp [intOf];omega
  ·obtain rfl:i=j:=by omega
   obtain ⟨q,hq⟩:∃q,i=q + 1:=⟨i - 1,by omega⟩
   have e2:(i:Int) - 1=(q:Int):=by omega
   have haq:a≤q:=by omega
   have hqn:q < n:=by omega
   have HQ:=Lib.hid hq
   clear hq
   have HO0:=HO
   have HG0:=HG
   clear HO HG
   go_wp2_with fail
   go_loopw [13] (fun x wr'=>∃(k:Nat) (cur:List Int),a≤k∧k≤q∧x= .int .i64 k∧Up zs cur a k∧Own wr' base 2 (some ⟨g,0,none⟩) n c (cur.map (Value.int .i64))∧w.grownBy wr' (some g)) (fun x _=>(n - intOf x).toNat)
   case atStart=>exact ⟨a,zs,Nat.le_refl _,haq,rfl,Up.refl _ _,HO0.out,HG0.out⟩
   case round=>
    clear HO0 HG0
    rename_i wr
    obtain ⟨k,cur,hk1,hk2,rfl,hu,ho,hg⟩:=hrel
    have HU:=Lib.hid hu
    have HO:=Lib.hid ho
    have HG:=Lib.hid hg
    clear hu ho hg
    by_cases hlt2:k < q
    ·obtain ⟨k1,hkk⟩:∃k1,k + 1=k1:=⟨_,rfl⟩
     have e3:(k:Int) + 1=(k1:Int):=by omega
     have e4:k1 < n:=by omega
     have HKK:=Lib.hid hkk
     clear hkk
     have ho1:Own wr.drew base 2 (some ⟨g,0,none⟩) n c (cur.map (Value.int .i64)):=HO.out
     obtain ⟨s1,t1⟩:=ho1.stored (k) (.int .i64 (aC cur (k1)))
     obtain ⟨s2,t2⟩:=s1.stored (k1) (.int .i64 (aC cur (k)))
     have hin:k < n:=by omega
     have hjn:k1 < n:=by first | assumption | omega
     have hc1:=cS HO.out hin
     have hc2:=cS HO.out hjn
     have hf1:=HO.out.1.frozenAt (k)
     have hf2:=HO.out.1.frozenAt (k1)
     have S2:=Lib.hid s2
     have T1:=Lib.hid t1
     have T2:=Lib.hid t2
     clear s1 t1 s2 t2 ho1
     go_wp2_with fail
     go_region
     go_wp2
     go_roundw
     case rel=>
      obtain rfl:=HKK.out
      refine ⟨k + 1,swp cur k (k + 1),by omega,by omega,by go_num,HU.out.step hk1 (by have:=HL.out;omega), ?_, ?_⟩
      ·unfold swp;rw [List.map_set,List.map_set];exact S2.out
      ·exact bO HG.out (bO (⟨rfl,rfl,rfl,Nat.le_refl _,fun _ _ _=>rfl⟩:wr.grownBy wr.drew _) (bO T1.out T2.out))
     case measure=>simp [intOf];omega
    ·obtain rfl:k=q:=by omega
     go_wp2_with fail
     refine bodyPost_ret (results_none rfl _ _ _) rfl ?_
     have hqq:=HQ.out
     have hm:=ti (i:=i) HB'.out (by omega) hj (fun h h1 h2=>HLO.out h (by omega) h2) HHI.out (by rw [show i - 1=k by omega];exact HU.out)
     exact ⟨rfl,cur,hm,HO.out,HG.out⟩
end Go.Proofs.YtekbhbcgoadciaaGreat
namespace Go.Proofs.YtekbhbcgoadciaaGreat
open Go.RowKit
set_option maxRecDepth 100000 in
set_option maxHeartbeats 3200000 in
theorem tr (key:Int→Nat) (g n c a m:Nat) (zs:List Int) (w:World) (base:Nat) (h:Own w base 2 (some ⟨g,0,none⟩) n c (zs.map (Value.int .i64))) (hn:n≤1000) (ham:a + 1 < m) (hb:m < n) (hr:nq zs)
  (hA:fS key zs a m) (hag:s9 key eE zs a m (m + 1)):
  Calls Tryz.prog 158 #[.slice (some ⟨g,0,none⟩) n c, .int .i64 a, .int .i64 m, .int .i64 (m + 1:Nat),gR] w fun e w'=>e= .returned (.tuple #[])∧kh key zs a (m + 1) (some ⟨g,0,none⟩) n c base w w':=by
 have hl:zs.length=n:=by have:=h.len;simpa using this
 have HL:=Lib.hid hl
 have HR:=Lib.hid hr
 have HA:=Lib.hid hA
 have HAG:=Lib.hid hag
 clear hl hr hA hag
 obtain ⟨b,hmb⟩:∃b,m + 1=b:=⟨_,rfl⟩
 rw [hmb]
 have e0:((m:Int) - (a:Int) == 1)=false:=by rw [beq_eq_false_iff_ne];omega
 have e1:(b:Int) - (m:Int)=1:=by omega
 have HMB:=Lib.hid hmb
 clear hmb
 go_enter Tryz.func158,Tryz.ntmps158
 go_wp2_with fail
 go_loopw [14,15] (fun x y wr=>∃(i j:Nat),a≤i∧i≤j∧j≤m∧x= .int .i64 i∧y= .int .i64 j∧(∀h,a≤h→h < i→key (aC zs h)≤key (aC zs m))∧(∀h,j≤h→h < m→key (aC zs m)≤key (aC zs h))∧Own wr base 2 (some ⟨g,0,none⟩) n c (zs.map (Value.int .i64))∧w.grownBy wr (some g)) (fun x y _=>(intOf y - intOf x).toNat)
 case atStart=>exact ⟨a,m,Nat.le_refl _,by omega,Nat.le_refl _,rfl,rfl,fun h h1 h2=>by omega,fun h h1 h2=>by omega,h,World.grownBy.refl _ _⟩
 case round=>
  obtain ⟨i,j,hi,hij,hj,rfl,rfl,hlo,hhi,ho,hg⟩:=hrel
  have HLO:=Lib.hid hlo
  have HHI:=Lib.hid hhi
  have HO:=Lib.hid ho
  have HG:=Lib.hid hg
  clear hlo hhi ho hg e0 e1
  by_cases hlt:i < j
  ·obtain ⟨h,hh⟩:∃h,(i + j) / 2=h:=⟨_,rfl⟩
   have hh1:i≤h:=by omega
   have hh2:h < j:=by omega
   have e1:((i:Int) + (j:Int)) / 2=(h:Int):=by omega
   clear hh
   have hxn:m < n:=by omega
   have hyn:h < n:=by omega
   have hc1:=cS HO.out hxn
   have hc2:=cS HO.out hyn
   have hS:∀w',Below wr.heap.size wr w'→(w'.cell? ⟨g,m,none⟩=some (.int .i64 (aC zs (m)))∧w'.cell? ⟨g,h,none⟩=some (.int .i64 (aC zs (h)))):=fun w' hb=>⟨(hb.cell (p:=⟨g,m,none⟩) (World.block_lt_of_cell? wr _ hc1)).trans hc1,(hb.cell (p:=⟨g,h,none⟩) (World.block_lt_of_cell? wr _ hc2)).trans hc2⟩
   have HS:=Lib.hid hS
   clear hS hc1 hc2
   obtain ⟨cz,hcz⟩:∃cz,nF (aC zs (m)) (aC zs (h))=cz:=⟨_,rfl⟩
   have hlz:eE (aC zs (m)) (aC zs (h))=decide (cz < 0):=by unfold eE;rw [hcz]
   have HCZ:=Lib.hid hcz
   have HLZ:=Lib.hid hlz
   clear hcz hlz
   have hk:(eE (aC zs m) (aC zs h)=true↔key (aC zs m) < key (aC zs h)):=HAG.out h m (by omega) (by omega) (Nat.le_refl _) (by omega)
   rw [HLZ.out,decide_eq_true_iff] at hk
   have HK:=Lib.hid hk
   clear hk
   by_cases hlt2:cz < 0
   ·have hd:decide (cz < 0)=true:=decide_eq_true hlt2
    go_wp2_with fail
    (refine cP (by kernel_rfl) (by kernel_rfl) ?_;(repeat (first | go_big_quiet_skip | (go_big_quiet_want;first | (go_big_quiet_op;go_big_quiet_on) | (apply dX;(· (intro _ hw;have f1:=(HS.out _ hw).1;have f0:=(HS.out _ hw).2;go_simp;exact rfl));go_simp;go_big_quiet_on) | (apply dA;(· (intro _ _;go_simp;exact ⟨rfl,rfl⟩));(· (intro _ hw;go_at_call 112;refine (jy HR.out m h _).mono ?_;rintro e w2 ⟨rfl,rfl⟩;rw [HCZ.out];exact ⟨rfl,hw⟩));go_simp;go_big_quiet_on))));refine wpQuiet_nil ?_;intro wq bq)
    go_wp2_with fail
    go_roundw
    case rel=>
     have hk:=HK.out.1 hlt2
     refine ⟨i,h,hi,by omega,by omega,rfl,rfl,HLO.out,fun t t1 t2=> ?_,HO.out.below bq,bO HG.out (cN bq _)⟩
     by_cases e:t=h
     ·rw [e];omega
     ·exact Nat.le_trans (Nat.le_of_lt hk) (HA.out h t (by omega) (by omega) (by omega))
    case measure=>simp [intOf];omega
   ·have hd:decide (cz < 0)=false:=decide_eq_false hlt2
    go_wp2_with fail
    (refine cP (by kernel_rfl) (by kernel_rfl) ?_;(repeat (first | go_big_quiet_skip | (go_big_quiet_want;first | (go_big_quiet_op;go_big_quiet_on) | (apply dX;(· (intro _ hw;have f1:=(HS.out _ hw).1;have f0:=(HS.out _ hw).2;go_simp;exact rfl));go_simp;go_big_quiet_on) | (apply dA;(· (intro _ _;go_simp;exact ⟨rfl,rfl⟩));(· (intro _ hw;go_at_call 112;refine (jy HR.out m h _).mono ?_;rintro e w2 ⟨rfl,rfl⟩;rw [HCZ.out];exact ⟨rfl,hw⟩));go_simp;go_big_quiet_on))));refine wpQuiet_nil ?_;intro wq bq)
    go_wp2_with fail
    go_roundw
    case rel=>
     have hk:key (aC zs h)≤key (aC zs m):=Nat.le_of_not_lt fun e=>absurd (HK.out.2 e) (by omega)
     refine ⟨h + 1,j,by omega,by omega,hj,by go_num,rfl,fun t t1 t2=> ?_,HHI.out,HO.out.below bq,bO HG.out (cN bq _)⟩
     by_cases e:t=h
     ·rw [e];exact hk
     ·exact Nat.le_trans (HA.out t h (by omega) (by omega) (by omega)) hk
    case measure=>simp [intOf];omega
  ·obtain rfl:i=j:=by omega
   have HO0:=HO
   have HG0:=HG
   clear HO HG
   go_wp2_with fail
   go_loopw [17] (fun x wr'=>∃(k:Nat) (cur:List Int),i≤k∧k≤m∧x= .int .i64 k∧Dn zs cur k m∧Own wr' base 2 (some ⟨g,0,none⟩) n c (cur.map (Value.int .i64))∧w.grownBy wr' (some g)) (fun x _=>(intOf x).toNat)
   case atStart=>exact ⟨m,zs,hj,Nat.le_refl _,rfl,Dn.refl _ _,HO0.out,HG0.out⟩
   case round=>
    clear HO0 HG0
    rename_i wr
    obtain ⟨k,cur,hk1,hk2,rfl,hu,ho,hg⟩:=hrel
    have HU:=Lib.hid hu
    have HO:=Lib.hid ho
    have HG:=Lib.hid hg
    clear hu ho hg
    by_cases hlt2:i < k
    ·obtain ⟨k1,hkk⟩:∃k1,k=k1 + 1:=⟨k - 1,by omega⟩
     have e3:(k:Int) - 1=(k1:Int):=by omega
     have e4:k1 < n:=by omega
     have HKK:=Lib.hid hkk
     clear hkk
     have ho1:Own wr.drew base 2 (some ⟨g,0,none⟩) n c (cur.map (Value.int .i64)):=HO.out
     obtain ⟨s1,t1⟩:=ho1.stored (k) (.int .i64 (aC cur (k1)))
     obtain ⟨s2,t2⟩:=s1.stored (k1) (.int .i64 (aC cur (k)))
     have hin:k < n:=by omega
     have hjn:k1 < n:=by first | assumption | omega
     have hc1:=cS HO.out hin
     have hc2:=cS HO.out hjn
     have hf1:=HO.out.1.frozenAt (k)
     have hf2:=HO.out.1.frozenAt (k1)
     have S2:=Lib.hid s2
     have T1:=Lib.hid t1
     have T2:=Lib.hid t2
     clear s1 t1 s2 t2 ho1
     go_wp2_with fail
     go_region
     go_wp2
     go_roundw
     case rel=>
      obtain rfl:=HKK.out
      refine ⟨k1,swp cur (k1 + 1) k1,by omega,by omega,by go_num,HU.out.step hk2 (by have:=HL.out;omega), ?_, ?_⟩
      ·unfold swp;rw [List.map_set,List.map_set];exact S2.out
      ·exact bO HG.out (bO (⟨rfl,rfl,rfl,Nat.le_refl _,fun _ _ _=>rfl⟩:wr.grownBy wr.drew _) (bO T1.out T2.out))
     case measure=>have:=HKK.out;simp [intOf];omega
    ·obtain rfl:k=i:=by omega
     go_wp2_with fail
     refine bodyPost_ret (results_none rfl _ _ _) rfl ?_
     have hm:=oG HA.out hi hj HLO.out HHI.out HU.out
     rw [HMB.out] at hm
     exact ⟨rfl,cur,hm,HO.out,HG.out⟩
end Go.Proofs.YtekbhbcgoadciaaGreat
namespace Go.Proofs.YtekbhbcgoadciaaGreat
open Go.RowKit
section
variable {P:Program} {nt:Nat} {S S':St} {w0 w:World} {ω0:g9} {ω:bJ} {η:Env} {a:Act}
theorem nc {f:FuncId} {o:Oper} {dst:Option Nat} {ins outs:List (Nm×Ch)} {args:List AV} {res:AV} {back:List (Nat×AV)} (kp:List (Nat×Nm))
  (hfc:FC P f ins args outs res back) (hod:o.dst=dst) (ht:(dst.map fun t=>Nat.blt t nt) != some false) (hop:∀ {w0:World} {ω0:g9} {η:Env} {ω:bJ} {a:Act} {w:World},da w0 ω0 nt S η ω a w→∃us,(execOp a.eval o).run P w= .ok (.enter f us.toArray) w∧fz η args us)
  (hin:jc S ins) (hkp:rV ins args back kp)
  (hnr:(res.names.all (eJ outs))=true) (hno:(outs.all fun p=>p.2.own && p.2.names.all (eJ outs))=true):
  bN P nt o S ((S.after ins outs (kp.map (·.2))).vI dst res):=by
 classical
 refine ⟨fun w0 ω0 a w Q ⟨η,ω,hs⟩=> ?_⟩
 obtain ⟨us,hrun,hopsL⟩:=hop hs
 let η1:Env:= { η with h:=fun x=>if lk x ins=none then none else η.h x }
 let ω1:bJ:=fun b=>match ω b with
  | some (x,i)=>if de ins x=true then some (x,i) else none
  | none=>none
 have hω1n:∀b,ω b=none→ω1 b=none:=fun b h=>by simp only [ω1,h]
 have hω1s:∀b x i,ω b=some (x,i)→de ins x=true→ω1 b=some (x,i):=fun b x i h h'=>by simp only [ω1,h,if_pos h']
 have hω1f:∀b x i,ω b=some (x,i)→de ins x=false→ω1 b=none:=fun b x i h h'=>by simp [ω1,h,h']
 have hη1:∀x,η1.h x=none∨(η1.h x=η.h x∧∀i,η1.r x i=η.r x i):=fun x=>by
  by_cases e:lk x ins=none
  ·exact .inl (if_pos e)
  ·exact .inr ⟨if_neg e,fun _=>rfl⟩
 have hmem:Mem η1 ω1 w fun x=>lk x ins:=by
  refine ⟨fun x c hx=> ?_,fun x hx=>if_pos hx⟩
  have hx:lk x ins=some c:=hx
  obtain ⟨c',hc',hcc⟩:=iu hin hx
  obtain ⟨hd,h1,h2⟩:=hs.mem.1 x c' hc'
  refine ⟨hd,by simp only [η1];rw [if_neg (by rw [hx];simp)];exact h1, ?_⟩
  by_cases hown:c.own=true
  ·have hcc':c'=c:=by
    rcases hcc with h | h
    ·exact h
    ·rw [h] at hown;cases hown
   subst hcc'
   refine h2.own ⟨Nat.le_refl _,fun b hb hp=>⟨rfl, ?_⟩⟩ (fun _=>rfl) fun l _ a _ z _=>hη1 z
   rcases hp with hp | ⟨i,hp⟩
   ·rw [hp];exact hω1n b hp
   ·rw [hp];exact hω1s b x i hp (by unfold de;rw [hx];exact hown)
  ·have hcons:de ins x=false:=by unfold de;rw [hx];simpa using hown
   have hc0:c= { c' with own:=false } :=by
    rcases hcc with h | h
    ·rw [h];have:c.own=false:=by simpa using hown
     rw [←this]
    ·exact h
   rw [hc0]
   exact h2.view hω1n (fun b i hb=>hω1f b x i hb hcons) (fun _=>rfl) fun l _ a _ z _=>hη1 z
 have hargs:fz η1 args (us):=by
  obtain ⟨h1,h2⟩:=hopsL
  refine ⟨h1,fun j av hj=> ?_⟩
  obtain ⟨u,h3,h4⟩:=h2 j av hj
  exact ⟨u,h3,h4.mono fun y _=>hη1 y⟩
 have hcall:=hfc w η1 ω1 _ hmem hargs
 unfold Oper.wp
 rw [hrun,Oper.upon_enter]
 refine hcall.mono fun e w' hl=> ?_
 obtain ⟨v,η2,ω2,rfl,hdv,hm2,hfr,hbk⟩:=hl
 have hdst:∀t,dst=some t→t < nt:=fun t ht'=>by subst ht';simpa using ht
 let ω3:bJ:=fun b=>if b < w.heap.size∧ω1 b=none then ω b else ω2 b
 let η3:Env:= { h:=fun y=>if eJ outs y=true then η2.h y else if de ins y=true then none else η.h y,r:=fun y i=>if eJ outs y=true then η2.r y i else η.r y i }
 have hturn:qm η η3 (eJ outs) (fo (kp.map (·.2))):=fun y=>by
  by_cases ho:eJ outs y=true
  ·refine .inr (.inr ⟨ho,fun hk h' he=> ?_⟩)
   obtain ⟨hin',j,hj,hj'⟩:=kz hkp hk
   obtain ⟨u,hu,hdu⟩:=hbk j _ hj'
   obtain ⟨u',hu',hdu'⟩:=hopsL.2 j _ hj
   rw [hu] at hu';obtain rfl:=Option.some.inj hu'
   have he2:η2.h y=some h':=by simp only [η3,if_pos ho] at he;exact he
   obtain ⟨b,o,g1,g2⟩:=(show cu η2 (.ptr y 0) u from hdu).2 h' he2
   obtain ⟨u'',hu'',hdu''⟩:=hargs.2 j _ hj
   have hlk:∃h,η.h y=some h:=by
    obtain ⟨c,hc⟩:=Option.isSome_iff_exists.1 hin'
    obtain ⟨c',hc',_⟩:=iu hin hc
    obtain ⟨h,hh,_⟩:=hs.mem.1 y c' hc'
    exact ⟨h,hh⟩
   obtain ⟨h,hh⟩:=hlk
   obtain ⟨b',o',g1',g2'⟩:=(show cu η (.ptr y 0) u from hdu').2 h hh
   rw [g2] at g2'
   injection g2' with g2';injection g2' with g2';injection g2' with g2' g3'
   refine ⟨h,hh, ?_⟩
   rw [g1,g1']
   subst g2'
   simp at g3'
   rw [g3']
  ·by_cases hc:de ins y=true
   ·exact .inl (by simp only [η3,if_neg ho,if_pos hc])
   ·exact .inr (.inl ⟨by simp only [η3,if_neg ho,if_neg hc],fun i=>by simp only [η3,if_neg ho]⟩)
 have hω3:∀b,b < w.heap.size→ω1 b=none→ω3 b=ω b:=fun b h1 h2=>by simp only [ω3,if_pos (And.intro h1 h2)]
 have hb3:∀b,b < w.heap.size→ω1 b=none→w'.heap[b]? =w.heap[b]? :=fun b h1 h2=>(hfr.block b h1 h2).1
 have hω32:∀b o,ω2 b=some o→ω3 b=some o:=fun b o h=>by
  by_cases e:b < w.heap.size∧ω1 b=none
  ·have:=(hfr.block b e.1 e.2).2
   rw [this] at h;cases h
  ·simp only [ω3,if_neg e,h]
 have hsame:Same ω w ω3 w' (fun o=>o=none∨∃y i,o=some (y,i)∧de ins y=false):=by
  refine ⟨hfr.size,fun b hb hp=> ?_⟩
  have h1:ω1 b=none:=by
   rcases hp with h | ⟨y,i,h,hc⟩
   ·exact hω1n b h
   ·exact hω1f b y i h hc
  exact ⟨hb3 b hb h1,hω3 b hb h1⟩
 have hst:da w0 ω0 nt (S.after ins outs (kp.map (·.2))) η3 ω3 a w':=by
  refine { dfr:=hs.dfr,tsz:=hs.tsz,slots:=fun t av ht'=> ?_,phs:=fun t av ht'=> ?_,mem:=⟨fun y c hy=> ?_,fun y hy=> ?_⟩,fr:= ?_ }
  ·obtain ⟨h1,h2⟩:=ff ht'
   obtain ⟨u,h3,h4⟩:=hs.slots t av h1
   exact ⟨u,h3,h4.gS hturn h2⟩
  ·obtain ⟨h1,h2⟩:=ff ht'
   obtain ⟨u,h3,h4⟩:=hs.phs t av h1
   exact ⟨u,h3,h4.gS hturn h2⟩
  ·have hy:(match lk y outs with
    | some c=>some c
    | none=>bif de ins y then none else (S.ch y).map (Ch.clean (eJ outs) (fo (kp.map (·.2)))))=some c:=hy
   cases hl:lk y outs with
   | some c1=>
    rw [hl] at hy
    obtain rfl:=Option.some.inj hy
    have ho:eJ outs y=true:=by unfold eJ;rw [hl];rfl
    obtain ⟨hd,h1,h2⟩:=hm2.1 y c1 hl
    refine ⟨hd,by simp only [η3,if_pos ho];exact h1, ?_⟩
    have hall:=List.all_eq_true.1 hno _ (gf hl)
    simp only [Bool.and_eq_true] at hall
    refine dm.xu (η:=η2) (ω:=ω2) (w:=w') hall.1 (fun b i _ hb=>⟨rfl,hω32 b _ hb⟩) (fun i=>by simp only [η3,if_pos ho]) (fun l hlf b1 hb1 z hz=> ?_) h2
    have hz':eJ outs z=true:=List.all_eq_true.1 hall.2 z (Ch.kq hlf hb1 hz)
    exact .inr ⟨by simp only [η3,if_pos hz'],fun i=>by simp only [η3,if_pos hz']⟩
   | none=>
    rw [hl] at hy
    have ho:eJ outs y=false:=by unfold eJ;rw [hl];rfl
    cases hc:de ins y with
    | true=>rw [hc] at hy;cases hy
    | false=>
     rw [hc] at hy
     simp only [cond_false,Option.map_eq_some_iff] at hy
     obtain ⟨c0,hc0,rfl⟩:=hy
     obtain ⟨hd,h1,h2⟩:=hs.mem.1 y c0 hc0
     refine ⟨hd,by simp only [η3,ho,hc];exact h1, ?_⟩
     exact h2.gS hsame (.inl rfl) (fun i=> .inr ⟨y,i,rfl,hc⟩) (fun i=>by simp only [η3,ho];rfl) hturn
  ·have hy:(match lk y outs with
    | some c=>some c
    | none=>bif de ins y then none else (S.ch y).map (Ch.clean (eJ outs) (fo (kp.map (·.2)))))=none:=hy
   cases hl:lk y outs with
   | some c1=>rw [hl] at hy;cases hy
   | none=>
    rw [hl] at hy
    have ho:eJ outs y=false:=by unfold eJ;rw [hl];rfl
    cases hc:de ins y with
    | true=>simp only [η3,ho,hc];rfl
    | false=>
     rw [hc] at hy
     simp only [cond_false,Option.map_eq_none_iff] at hy
     simp only [η3,ho,hc]
     exact hs.mem.2 y hy
  ·refine ⟨hfr.os.trans hs.fr.os,hfr.tape.trans hs.fr.tape,hfr.output.trans hs.fr.output,Nat.le_trans hs.fr.size hfr.size,fun b hb hn=> ?_⟩
   obtain ⟨h1,h2⟩:=hs.fr.block b hb hn
   have hlt:=Nat.lt_of_lt_of_le hb hs.fr.size
   exact ⟨(hb3 b hlt (hω1n b h2)).trans h1,(hω3 b hlt (hω1n b h2)).trans h2⟩
 rw [hod]
 cases dst with
 | none=>exact ⟨η3,ω3,hst⟩
 | some t=>exact ⟨η3,ω3,hst.fi (hdst t rfl) (hdv.mono fun y hy=>by
   have hz':eJ outs y=true:=List.all_eq_true.1 hnr y (AV.dq hy)
   exact .inr ⟨by simp only [η3,if_pos hz'],fun i=>by simp only [η3,if_pos hz']⟩)⟩
variable {t:Nat} {ty:TypeId} {ps:String} {af:Array Edge} {gd:Option (Nat×Bool)} {x y:Operand}
theorem gH {f:FuncId} {n off:Nat} (ht:Nat.blt t nt=true) (hx:S.op x=some (o1 (.ptr n off))):
  bN P nt ⟨some t, .makeFunc (.func f) #[] #[x],ty,ps,af,gd⟩ S (S.put t (o1 (.clo (.func f) [(n,off)]))):=
 bN.pure rfl ht fun w0 ω0 η ω a w hs=>by
  have hp:cu η (.ptr n off) (a.eval x):=hs.fU hx
  refine ⟨.func (.func f) #[] #[a.eval x],by simp [execOp,Instr.makeFunc],⟨#[a.eval x],rfl,rfl,fun j p hj=> ?_⟩⟩
  match j,hj with
  | 0,hj=>obtain rfl:=Option.some.inj hj;exact ⟨a.eval x,rfl,hp.1,hp.2⟩
theorem ku {f:FuncId} {xs:Array Operand} {ts:Array TypeId} {n off:Nat} {ins:List (Nm×Ch)} {args args':List AV} {res:AV} {back:List (Nat×AV)} (hy:S.op y=some (o1 (.clo (.func f) [(n,off)])))
  (hfc:FC P f ins (args ++ [o1 (.ptr n off)]) [] res back) (hf:iX P f=true) (ht:Nat.blt t nt=true) (hx':su S xs.toList=some args') (hto:lP args' args) (hin:jc S ins) (hro:(ins.all fun p=> !p.2.own)=true) (hnr:(res.names.all (eJ []))=true):
  bN P nt ⟨some t, .call { callee:= .value y,args:=xs,argTypes:=ts },ty,ps,af,gd⟩ S (S.put t res):=
 (nc (dst:=some t) (kp:= []) hfc rfl (by simp [ht]) (fun {w0 ω0 η ω a w} hs=>by
  obtain ⟨us,hev,hus,hat⟩:cu η (.clo (.func f) [(n,off)]) (a.eval y):=hs.fU hy
  obtain ⟨q,hq,hp1,hp2⟩:=hat 0 (n,off) rfl
  have hl:us.size=1:=hus
  have hue:us= #[q]:=by
   apply Array.ext (by simpa using hl)
   intro i h1 h2
   obtain rfl:i=0:=by simp at h2;omega
   rw [Array.getElem?_eq_getElem h1] at hq
   simpa using hq
  subst hue
  obtain ⟨d1,d2⟩:=(hs.opsL hx').to hto
  refine ⟨xs.toList.map a.eval ++ [q], ?_,by rw [List.length_append,List.length_append,d1];rfl,fun j av hj=> ?_⟩
  ·have:(xs.toList.map a.eval ++ [q]).toArray=xs.map a.eval ++ #[q]:=by apply Array.ext';simp
   rw [this]
   simp [execOp,resolve,hev,Deferred.ofValue,invoke,gx hf]
  ·by_cases h:j < args.length
   ·rw [List.getElem?_append_left h] at hj
    obtain ⟨u,g1,g2⟩:=d2 j av hj
    exact ⟨u,by rw [List.getElem?_append_left (by rw [d1];exact h)];exact g1,g2⟩
   ·rw [List.getElem?_append_right (by omega)] at hj
    have e:j - args.length=0:=by
     have:=(List.getElem?_eq_some_iff.1 hj).1
     simp at this;omega
    rw [e] at hj
    obtain rfl:=Option.some.inj hj
    exact ⟨q,by rw [List.getElem?_append_right (by omega),d1,e];rfl,hp1,hp2⟩) hin trivial hnr rfl).wk (kF hro)
end
end Go.Proofs.YtekbhbcgoadciaaGreat
namespace Go.Proofs.YtekbhbcgoadciaaGreat
open Go.RowKit
section
variable {P:Program} {nt:Nat} {S S' S1 S2:St} {w0 w:World} {ω0:g9} {ω:bJ} {η:Env} {a:Act} {Q:Exit→Act→World→Prop} {ops:Array Oper} {rest:List Oper} {t:Nat} {ty:TypeId} {ps:String} {af:Array Edge} {gd:Option (Nat×Bool)} {x y:Operand} {o:Oper} {α:Type}
structure ui (P:Program) (nt:Nat) (o:Oper) (S:St) (p:α→Prop) (F:α→St):Prop where
 go:∀w0 ω0 a w Q,Sat w0 ω0 nt S a w→o.wp P a w (fun a w=>∃z,p z∧Sat w0 ω0 nt (F z) a w) Q
theorem ou {p:α→Prop} {F:α→St} (hg:o.guard=none) (h:ui P nt o S p F) (k:∀z,p z→oC P w0 ω0 nt ops Q (F z) rest):oC P w0 ω0 nt ops Q S (o :: rest):=by
 refine ⟨fun a w hs=>wpList_plain hg fun K' hK'=> ?_⟩
 exact Oper.wp_mono (fun a' w' ⟨z,hz,h'⟩=>hK' _ _ ((k z hz).go a' w' h')) (h.go w0 ω0 a w Q hs)
theorem nr {c:Code} {p:α→Prop} (F:α→St) (h:fb P w0 ω0 nt S c (fun e a w=>e= .normal∧∃z,p z∧Sat w0 ω0 nt (F z) a w)) (k:∀z,p z→Fin w0 ω0 nt (F z) .normal Q):fb P w0 ω0 nt S c Q:=
 ⟨fun a w hs=>Code.wp_mono (fun e a' w' ⟨he,z,hz,h'⟩=>by subst he;exact (k z hz).go a' w' h') (h.go a w hs)⟩
theorem fG {p:α→Prop} {F:α→St} (z:α) (hz:p z) (h:Wk S1 (F z)):Fin w0 ω0 nt S1 .normal (fun e a w=>e= .normal∧∃z,p z∧Sat w0 ω0 nt (F z) a w):=⟨fun a w hs=>⟨rfl,z,hz,h.go _ _ _ a w hs⟩⟩
def yY (P:Program) (f:FuncId) (ins:List (Nm×Ch)) (args:List AV) (p:α→Prop) (outs:α→List (Nm×Ch)) (back:List (Nat×AV)):Prop:=
 ∀w η ω us,Mem η ω w (fun x=>lk x ins)→fz η args us→Calls P f us.toArray w fun e w'=>∃z,p z∧Left w ω us (outs z) (.tup []) back e w'
theorem sH {f:FuncId} {fn:Func} {c:Code} {ins:List (Nm×Ch)} {args:List AV} {p:α→Prop} {outs:α→List (Nm×Ch)} {back:List (Nat×AV)} (hf:P.funcs[f]? =some fn) (hb:fn.body=some c) (hn:fn.ntmps=nt) (hl:args.length≤nt)
  (h:∀w0 ω0,fb P w0 ω0 nt (St.of (q8 0 args) ins (q8 0 args)) c (bodyPost P fn (fun e w'=>∃z,p z∧Left w0 ω0.own ω0.ph (outs z) (.tup []) back e w'))):yY P f ins args p outs back:=by
 intro w η ω us hm hd
 refine calls_of_wp hf hb ((h w ⟨ω,us⟩).go _ _ ⟨η,ω, ?_⟩)
 have hsz:us.toArray.size=us.length:=by simp
 refine { dfr:=rfl,tsz:= ?_,slots:=fun t av ht=> ?_,phs:=fun t av ht=> ?_,mem:=hm,fr:=Fr.refl _ _ }
 ·have:=hd.1
  simp;omega
 ·obtain ⟨j,rfl,hj⟩:=ke ht
  obtain ⟨u,h1,h2⟩:=hd.2 j av hj
  refine ⟨u, ?_,h2⟩
  have hlt:j < us.length:=(List.getElem?_eq_some_iff.1 h1).1
  simp only [Nat.zero_add]
  rw [Array.getElem?_append_left (by simpa using hlt)]
  simpa using h1
 ·obtain ⟨j,rfl,hj⟩:=ke ht
  obtain ⟨u,h1,h2⟩:=hd.2 j av hj
  exact ⟨u,by simpa using h1,h2⟩
theorem kN {fn:Func} {e:Exit} {p:α→Prop} {outs:α→List (Nm×Ch)} {back:List (Nat×AV)} (z:α) (hz:p z) (he:e= .ret∨e= .normal) (hf:fn.results= #[]) (hc:k9 S (outs z)) (hb:lg S back):
  Fin w0 ω0 nt S e (bodyPost P fn (fun e w'=>∃z,p z∧Left w0 ω0.own ω0.ph (outs z) (.tup []) back e w')):=by
 refine ⟨fun a w ⟨η,ω,hs⟩=> ?_⟩
 have:a.defers= []∧∃v,(results fn a.tmps).run P w= .ok v w∧∃z,p z∧Left w0 ω0.own ω0.ph (outs z) (.tup []) back (.returned v) w:=⟨hs.dfr,_,nR hf,z,hz,hs.left hc hb ⟨#[],rfl,rfl,fun j b hj=>by simp at hj⟩⟩
 rcases he with rfl | rfl<;>exact this
theorem tH {w:World} {lo base E n c:Nat} {ao:Option Addr} {xs:List Value} (h:Own w lo E ao n c xs) (hb:∀g,bk ao=some g→base≤g):Own w base E ao n c xs:=by
 obtain ⟨⟨h1,h2⟩,h3⟩:=h
 refine ⟨⟨h1, ?_⟩,h3⟩
 rcases h2 with h2 | ⟨b,c',cs,k1,k2,k3⟩
 ·exact .inl h2
 ·refine .inr ⟨b,c',cs,k1, ?_,k3⟩
  have:bk ao=some b:=by injection k1 with q1 q2 q3;rw [q1];rfl
  exact hb b this
theorem yY.gS {f:FuncId} {E:Nat} {vs:List Value} {n c base:Nat} {ao:Option Addr} {zs:List Int} {p:List Int→Prop} {w:World} (hl:zs.length=n) (hp:∀z,p z→z.length=n) (h4:n≤4398046511104)
  (h:yY P f [(1003,⟨true,E,1, .bG (aH zs)⟩)] (o1 (.sl 1003 0 n) :: vs.map vv) p (fun z=> [(1003,⟨true,E,1, .bG (aH z)⟩)]) [(0,o1 (.sl 1003 0 n))]) (ho:Own w base E ao n c (aH zs)):
  Calls P f (Value.slice ao n c :: vs).toArray w fun e w'=>e= .returned (.tuple #[])∧∃z,p z∧Own w' base E ao n c (aH z)∧w.grownBy w' (bk ao):=by
 classical
 let η:Env:= { h:=fun x=>if x=1003 then some ⟨ao,c,1⟩ else none,r:=fun _ _=>⟨none,0,0⟩ }
 let ω:bJ:=fun b=>if bk ao=some b then some (1003,none) else none
 have hv:=lz (ω':=ω) ho (x:=(1003,none)) fun g hg=>by simp only [ω];rw [if_pos hg]
 have hη:η.h 1003=some ⟨ao,c,1⟩:=by simp [η]
 have hm:Mem η ω w fun x=>lk x [(1003,(⟨true,E,1, .bG (aH zs)⟩:Ch))]:=by
  refine ⟨fun x ch hx=> ?_,fun x hx=> ?_⟩
  ·by_cases e:x=1003
   ·subst e
    have hx:some (⟨true,E,1, .bG (aH zs)⟩:Ch)=some ch:=hx
    obtain rfl:=Option.some.inj hx
    exact ⟨⟨ao,c,1⟩,hη,rfl,hv⟩
   ·have:lk x [(1003,(⟨true,E,1, .bG (aH zs)⟩:Ch))]=none:=by
     simp only [lk]
     cases hb:Nat.beq x 1003 with
     | true=>exact absurd (beq_true hb) e
     | false=>rfl
    have hx:lk x [(1003,(⟨true,E,1, .bG (aH zs)⟩:Ch))]=some ch:=hx
    rw [this] at hx;cases hx
  ·by_cases e:x=1003
   ·subst e;cases hx
   ·exact if_neg e
 have hd:fz η (o1 (.sl 1003 0 n) :: vs.map vv) (Value.slice ao n c :: vs):=by
  refine ⟨by simp,fun j av hj=> ?_⟩
  match j,hj with
  | 0,hj=>
   obtain rfl:=Option.some.inj hj
   refine ⟨_,rfl,⟨⟨_,_,rfl⟩,fun hd hh=> ?_⟩⟩
   rw [hη] at hh
   obtain rfl:=Option.some.inj hh
   exact ⟨ao,rfl,fun _=>rfl,fun h0=>absurd h0 (by omega)⟩
  | j + 1,hj=>
   simp only [List.getElem?_cons_succ,List.getElem?_map,Option.map_eq_some_iff] at hj
   obtain ⟨u,h1,rfl⟩:=hj
   exact ⟨u,by simpa using h1,rfl⟩
 refine (h w η ω _ hm hd).mono ?_
 rintro e w' ⟨z,hz,v,η',ω',rfl,hdv,hm',hfr,hbk⟩
 have hzl:=hp z hz
 obtain ⟨us,rfl,hus,_⟩:Den η' (.tup []) v:=hdv
 have hus:us= #[]:=by simpa using hus
 subst hus
 obtain ⟨u,hu,hu2⟩:=hbk 0 _ rfl
 obtain rfl:=Option.some.inj hu
 obtain ⟨hd',e1,e2,e3⟩:=hm'.1 1003 ⟨true,E,1, .bG (aH z)⟩ rfl
 have e2:hd'.k=1:=e2
 have e3:cW ω' w' (1003,none) hd' E (aH z).length (bU η' ω' w' true 1003 (.bG (aH z))):=e3
 obtain ⟨ao',hev,q1,_⟩:=(show cu η' (.sl 1003 0 n) _ from hu2).2 hd' e1
 have q1:=q1 rfl
 subst q1
 injection hev with g1 g2 g3
 have hown:=cW.own (lo:=0) (xs:=aH z) e2 e3 (fun b hb=>absurd hb (by omega)) (by rw [aO];omega) rfl (fun j u hj ⟨b,o,f1,f2⟩=>by
  obtain ⟨b',o',u',k1,k2,k3⟩:=iz.get (own:=true) e3 hj
  rw [f1] at k1;injection k1 with k1;injection k1 with k1 k1';subst k1 k1'
  rw [f2] at k2
  obtain rfl:=Option.some.inj k2
  exact k3)
 rw [aO,hzl] at hown
 have hc:hd'.c=c:=by omega
 rw [←g1,hc] at hown
 refine ⟨rfl,z,hz,tH hown.1 fun g hg=>(ho.lt g hg).1,hfr.os,hfr.tape,hfr.output,hfr.size,fun b hb hne=> ?_⟩
 have hn0:ω b=none:=by simp only [ω];exact if_neg fun e=>hne e.symm
 exact (hfr.block b hb hn0).1
theorem m4 {f:FuncId} {ts:Array TypeId} {xs:Array Operand} {n:Nm} {E len:Nat} {zs:List Int} {vs:List Value} {args:List AV} {p:List Int→Prop} (hto:∀η us,fz η args us→fz η (o1 (.sl n 0 len) :: vs.map vv) us) (ht:Nat.blt t nt=true) (hf:iX P f=true) (hx:su S xs.toList=some args) (hc:S.ch n=some ⟨true,E,1, .bG (aH zs)⟩) (hl:zs.length=len) (hlen:len≤4398046511104)
  (h:∀ao c (w:World),Own w 0 E ao len c (aH zs)→Calls P f (Value.slice ao len c :: vs).toArray w fun e w'=>e= .returned (.tuple #[])∧∃z,p z∧Own w' 0 E ao len c (aH z)∧w.grownBy w' (bk ao)):
  ui P nt ⟨some t, .call { callee:= .value (.func f),args:=xs,argTypes:=ts },ty,ps,af,gd⟩ S p (fun z=>(S.set n ⟨true,E,1, .bG (aH z)⟩).put t (.tup [])):=by
 refine ⟨fun w0 ω0 a w Q ⟨η,ω,hs⟩=> ?_⟩
 obtain ⟨hd,e1,e2,e3⟩:=hs.chunk hc
 have e2:hd.k=1:=e2
 have e3:cW ω w (n,none) hd E (aH zs).length (bU η ω w true n (.bG (aH zs))):=e3
 obtain ⟨l1,l2⟩:=hto _ _ (hs.opsL hx)
 obtain ⟨u0,u1,u2⟩:=l2 0 _ rfl
 have hu:cu η (.sl n 0 len) u0:=u2
 obtain ⟨ao,hev,q1,_⟩:=hu.2 hd e1
 have q1:=q1 rfl
 subst q1
 rw [Nat.sub_zero] at hev
 have hus:xs.toList.map a.eval=Value.slice hd.ao len hd.c :: vs:=by
  apply List.ext_getElem?
  intro j
  match j with
  | 0=>rw [u1,hev];rfl
  | j + 1=>
   by_cases hj:j < vs.length
   ·obtain ⟨u,k1,k2⟩:=l2 (j + 1) (vv vs[j]) (by simp [hj])
    have k2:u=vs[j]:=k2
    rw [k1,k2];simp [hj]
   ·rw [List.getElem?_eq_none,List.getElem?_eq_none]
    ·simp;omega
    ·rw [l1];simp;omega
 have hown:=cW.own (lo:=0) (xs:=aH zs) e2 e3 (fun b hb=>absurd hb (by omega)) (by rw [aO];omega) rfl (fun j u hj ⟨b,o,f1,f2⟩=>by
  obtain ⟨b',o',u',g1,g2,g3⟩:=iz.get (own:=true) e3 hj
  rw [f1] at g1;injection g1 with g1;injection g1 with g1 g1';subst g1 g1'
  rw [f2] at g2
  obtain rfl:=Option.some.inj g2
  exact g3)
 rw [aO,hl] at hown
 have hua:xs.map a.eval=(Value.slice hd.ao len hd.c :: vs).toArray:=by
  rw [←hus];apply Array.ext';simp
 have hrun:(execOp a.eval ⟨some t, .call { callee:= .value (.func f),args:=xs,argTypes:=ts },ty,ps,af,gd⟩).run P w= .ok (.enter f (Value.slice hd.ao len hd.c :: vs).toArray) w:=by
  have hfe:a.eval (.func f)= .func (Fn.func f) #[] #[]:=rfl
  rw [←hua]
  simp [execOp,resolve,hfe,Deferred.ofValue,invoke,gx hf]
 unfold Oper.wp
 rw [hrun,Oper.upon_enter]
 refine (h _ _ _ hown.1).mono ?_
 rintro e w' ⟨rfl,z,hz,ho,hg⟩
 have hsz:=hg.size
 have hw:=hs.write (x:=n) (c':=⟨true,E,1, .bG (aH z)⟩) (ω':=ω) (w':=w') e1 ⟨hg.os,hg.tape,hg.output,hsz,fun b hb hlv=>⟨hg.block b hb fun e=> ?_,rfl⟩⟩ ⟨e2, ?_⟩
 ·exact ⟨z,hz,η,ω,hw.fi (by simpa using ht) ⟨#[],rfl,rfl,fun j b hj=>by simp at hj⟩⟩
 ·have h1:=(hown.2 b e.symm).2
  rcases hlv with h0 | ⟨y,i,c,h0,h2⟩
  ·rw [h1] at h0;cases h0
  ·rw [h1] at h0;simp at h0;rw [←h0.1,eG,if_pos rfl] at h2;cases h2
 ·have hv:=lz (ω':=ω) ho (x:=(n,none)) fun g hg'=>(hown.2 g hg').2
  have:hd=⟨hd.ao,hd.c,1⟩:=by rw [←e2]
  rw [this]
  exact hv
theorem kU {f:FuncId} {ts:Array TypeId} {xs:Array Operand} {n:Nm} {E len:Nat} {zs:List Int} {vs:List Value} {p:List Int→Prop} (ht:Nat.blt t nt=true) (hf:iX P f=true) (hx:su S xs.toList=some (o1 (.sl n 0 len) :: vs.map vv)) (hc:S.ch n=some ⟨true,E,1, .bG (aH zs)⟩) (hl:zs.length=len) (hlen:len≤4398046511104)
  (h:∀ao c (w:World),Own w 0 E ao len c (aH zs)→Calls P f (Value.slice ao len c :: vs).toArray w fun e w'=>e= .returned (.tuple #[])∧∃z,p z∧Own w' 0 E ao len c (aH z)∧w.grownBy w' (bk ao)):
  ui P nt ⟨some t, .call { callee:= .value (.func f),args:=xs,argTypes:=ts },ty,ps,af,gd⟩ S p (fun z=>(S.set n ⟨true,E,1, .bG (aH z)⟩).put t (.tup [])):=m4 (fun _ _ h=>h) ht hf hx hc hl hlen h
theorem wm {n:Nm} {len:Nat} {g:FuncId} (η:Env) (us:List Value) (h:fz η [o1 (.sl n 0 len),o1 (.clo (.func g) [])] us):fz η (o1 (.sl n 0 len) :: [Value.func (.func g) #[] #[]].map vv) us:=by
 refine ⟨h.1,fun j av hj=> ?_⟩
 match j,hj with
 | 0,hj=>exact h.2 0 av hj
 | 1,hj=>
  obtain rfl:=Option.some.inj hj
  obtain ⟨u,h1,us',h2,h3,_⟩:=h.2 1 _ rfl
  have h3:us'.size=0:=h3
  have:us'= #[]:=Array.size_eq_zero_iff.1 h3
  subst this
  exact ⟨u,h1,h2⟩
theorem sv {f:FuncId} {xs:Array Operand} {ts:Array TypeId} {ins:List (Nm×Ch)} {args args':List AV} {res:AV} {back:List (Nat×AV)} (hy:S.op y=some (vv (.func (.func f) #[] #[])))
  (hfc:FC P f ins args [] res back) (hf:iX P f=true) (ht:Nat.blt t nt=true) (hx':su S xs.toList=some args') (hto:lP args' args) (hin:jc S ins) (hro:(ins.all fun p=> !p.2.own)=true) (hnr:(res.names.all (eJ []))=true):
  bN P nt ⟨some t, .call { callee:= .value y,args:=xs,argTypes:=ts },ty,ps,af,gd⟩ S (S.put t res):=
 (nc (dst:=some t) (kp:= []) hfc rfl (by simp [ht]) (fun {w0 ω0 η ω a w} hs=>by
  have hev:a.eval y= .func (.func f) #[] #[]:=hs.fg hy
  obtain ⟨d1,d2⟩:=(hs.opsL hx').to hto
  refine ⟨xs.toList.map a.eval, ?_,d1,d2⟩
  have:(xs.toList.map a.eval).toArray=xs.map a.eval:=by apply Array.ext';simp
  rw [this]
  simp [execOp,resolve,hev,Deferred.ofValue,invoke,gx hf]) hin trivial hnr rfl).wk (kF hro)
theorem ek {xt yt:TypeId} {n:Nat} (ht:Nat.blt t nt=true) (hx:S.op x=some (vv (.int .u64 (n:Int)))) (hn:n < 1000000):
  bN P nt ⟨some t, .binOp .shr xt x (.const (.int .u64 1)) yt,ty,ps,af,gd⟩ S (S.put t (vv (.int .u64 ((n / 2:Nat):Int)))):=
 bN.pure rfl ht fun _ _ η _ s w hs=>by
  refine ⟨.int .u64 ((n / 2:Nat):Int), ?_,rfl⟩
  have e:Op.shift .shr .u64 (n:Int) .u64 1=pure (.int .u64 ((n / 2:Nat):Int)):=by
   rw [shift_shr_u64 (x:=(n:Int)) (y:=1) (yk:= .u64) (by omega) (by omega)]
   simp
  have he:s.eval (.const (.int .u64 1))= .int .u64 1:=rfl
  simp [execOp,hs.fg hx,he,eqGuard,binOp,e]
end
end Go.Proofs.YtekbhbcgoadciaaGreat
namespace Go.Proofs.YtekbhbcgoadciaaGreat
open Go.RowKit
abbrev yx (W:List Int):Ch:=⟨true,2,1, .bG (aH W)⟩
theorem wJ {zs:List Int} (h:nq zs) (i j:Nat):FC Tryz.prog 112 [] [vv (I6 (aC zs i)),vv (I6 (aC zs j))] [] (vv (I6 (nF (aC zs i) (aC zs j)))) []:=
 du fun w η ω us hm ⟨hl,ha⟩=>by
  obtain ⟨u0,g0,d0⟩:=ha 0 _ rfl
  obtain ⟨u1,g1,d1⟩:=ha 1 _ rfl
  have d0:u0=I6 (aC zs i):=d0
  have d1:u1=I6 (aC zs j):=d1
  subst d0 d1
  have:us= [I6 (aC zs i),I6 (aC zs j)]:=by
   apply List.ext_getElem?
   intro k
   match k with
   | 0=>exact g0
   | 1=>exact g1
   | k + 2=>rw [List.getElem?_eq_none,List.getElem?_eq_none]<;>simp at * <;>omega
  subst this
  exact (jy h i j w).mono fun e w' ⟨h1,h2⟩=>⟨h1,by rw [h2];exact Below.refl _ _⟩
set_option maxRecDepth 100000 in
set_option maxHeartbeats 8000000 in
theorem wo (key:Int→Nat) (zs:List Int) (n a m b:Nat) (hn:n≤1000) (hzl:zs.length=n) (ham:a + 2≤m) (hmb:m + 2≤b) (hb:b≤n) (hr:nq zs) (hA:fS key zs a m) (hB:fS key zs m b) (hag:s9 key eE zs a m b)
  (ih:∀(a' m' b':Nat) (zs':List Int) (ao:Option Addr) (c base:Nat) (w:World),b' - a' < b - a→Own w base 2 ao n c (zs'.map (Value.int .i64))→a' < m'→m' < b'→b'≤n→nq zs'→fS key zs' a' m'→fS key zs' m' b'→s9 key eE zs' a' m' b'→
   Calls Tryz.prog 158 #[.slice ao n c, .int .i64 a', .int .i64 m', .int .i64 b',gR] w fun e w'=>e= .returned (.tuple #[])∧kh key zs' a' b' ao n c base w w'):
  yY Tryz.prog 158 [(1003,yx zs)] [o1 (.sl 1003 0 n),vv (I6 a),vv (I6 m),vv (I6 b),vv gR] (fun z=>Kept zs z a b∧fS key z a b) (fun z=> [(1003,yx z)]) [(0,o1 (.sl 1003 0 n))]:=by
 obtain ⟨md,hmd⟩:∃md,(a + b) / 2=md:=⟨_,rfl⟩
 obtain ⟨nn,hnn⟩:∃nn,md + m=nn:=⟨_,rfl⟩
 obtain ⟨p,hp⟩:∃p,p + 1=nn:=⟨nn - 1,by omega⟩
 have e1:IntKind.i64.wrap ((m:Int) - (a:Int))=((m - a:Nat):Int):=xe (by omega) (by omega)
 have e2:IntKind.i64.wrap ((b:Int) - (m:Int))=((b - m:Nat):Int):=xe (by omega) (by omega)
 have e3:IntKind.i64.wrap ((a:Int) + (b:Int))=((a + b:Nat):Int):=xl (by omega) (by omega)
 have hcu:IntKind.u64.wrap ((a + b:Nat):Int)=((a + b:Nat):Int):=by rw [IntKind.wrap_u64];omega
 have hcm:a + b < 1000000:=by omega
 have hci':IntKind.i64.wrap (((a + b) / 2:Nat):Int)=(((a + b) / 2:Nat):Int):=IntWalk.i64_in _ (by omega)
 rw [hmd] at hci'
 have e4:IntKind.i64.wrap ((md:Int) + (m:Int))=(nn:Int):=by rw [IntWalk.i64_in _ (by omega)];omega
 have e5:IntKind.i64.wrap ((nn:Int) - 1)=(p:Int):=by rw [IntWalk.i64_in _ (by omega)];omega
 have hil:n≤(aH zs).length:=by rw [aO,hzl];exact Nat.le_refl _
 obtain ⟨s0,hs0⟩:∃s0,(if m > md then md + m - b else a)=s0:=⟨_,rfl⟩
 obtain ⟨r0,hr0⟩:∃r0,(if m > md then md else m)=r0:=⟨_,rfl⟩
 refine sH (nt:=220) Tryz.func158 rfl rfl (by simp) fun w0 ω0=> ?_
 (refine aj ?_;refine aj ?_;refine ag ?_;apply ae rfl;(exact ah rfl rfl);apply ae rfl;(exact ah rfl rfl);apply ae rfl;(exact bf rfl rfl rfl e1);apply ae rfl;(exact aB rfl rfl rfl rfl);refine aq ?_;refine an ?_)
 refine ax rfl (fun e=>absurd e (by simp;omega)) (fun _=> ?_)
 (refine aG ?_;refine an ?_;refine aj ?_;refine aj ?_;refine ag ?_;apply ae rfl;(exact ah rfl rfl);apply ae rfl;(exact ah rfl rfl);apply ae rfl;(exact bf rfl rfl rfl e2);apply ae rfl;(exact aB rfl rfl rfl rfl);refine aq ?_;refine an ?_)
 refine ax rfl (fun e=>absurd e (by simp;omega)) (fun _=> ?_)
 (refine aG ?_;refine an ?_;refine aj ?_;refine ag ?_;apply ae rfl;(exact ah rfl rfl);apply ae rfl;(exact ah rfl rfl);apply ae rfl;(first | exact aJ rfl rfl rfl e3 | exact aN (k2:= .u64) rfl rfl (by as_aux_lemma=>kernel_rfl) (by as_aux_lemma=>kernel_rfl) hcu | exact hmd ▸ ek rfl rfl hcm | exact aN (k2:= .i64) rfl rfl (by as_aux_lemma=>kernel_rfl) (by as_aux_lemma=>kernel_rfl) hci' | exact aJ rfl rfl rfl e4);apply ae rfl;(first | exact aJ rfl rfl rfl e3 | exact aN (k2:= .u64) rfl rfl (by as_aux_lemma=>kernel_rfl) (by as_aux_lemma=>kernel_rfl) hcu | exact hmd ▸ ek rfl rfl hcm | exact aN (k2:= .i64) rfl rfl (by as_aux_lemma=>kernel_rfl) (by as_aux_lemma=>kernel_rfl) hci' | exact aJ rfl rfl rfl e4);apply ae rfl;(first | exact aJ rfl rfl rfl e3 | exact aN (k2:= .u64) rfl rfl (by as_aux_lemma=>kernel_rfl) (by as_aux_lemma=>kernel_rfl) hcu | exact hmd ▸ ek rfl rfl hcm | exact aN (k2:= .i64) rfl rfl (by as_aux_lemma=>kernel_rfl) (by as_aux_lemma=>kernel_rfl) hci' | exact aJ rfl rfl rfl e4);apply ae rfl;(first | exact aJ rfl rfl rfl e3 | exact aN (k2:= .u64) rfl rfl (by as_aux_lemma=>kernel_rfl) (by as_aux_lemma=>kernel_rfl) hcu | exact hmd ▸ ek rfl rfl hcm | exact aN (k2:= .i64) rfl rfl (by as_aux_lemma=>kernel_rfl) (by as_aux_lemma=>kernel_rfl) hci' | exact aJ rfl rfl rfl e4);apply ae rfl;(exact ai rfl rfl);refine aq ?_;refine an ?_;refine aj ?_;refine ag ?_;apply ae rfl;(exact ah rfl rfl);apply ae rfl;(exact ah rfl rfl);apply ae rfl;(first | exact aJ rfl rfl rfl e3 | exact aN (k2:= .u64) rfl rfl (by as_aux_lemma=>kernel_rfl) (by as_aux_lemma=>kernel_rfl) hcu | exact hmd ▸ ek rfl rfl hcm | exact aN (k2:= .i64) rfl rfl (by as_aux_lemma=>kernel_rfl) (by as_aux_lemma=>kernel_rfl) hci' | exact aJ rfl rfl rfl e4);apply ae rfl;(exact ai rfl rfl);refine aq ?_;refine an ?_;refine aj ?_;refine ag ?_;apply ae rfl;(exact ai rfl rfl);apply ae rfl;(exact ai rfl rfl);refine aq ?_;refine an ?_;refine aj ?_;refine aj ?_;refine ag ?_;apply ae rfl;(exact ah rfl rfl);apply ae rfl;(exact ah rfl rfl);apply ae rfl;(exact aB rfl rfl rfl rfl);refine aq ?_;refine an ?_)
 skip
 refine cq (St.of [(0,o1 (.sl 1003 0 n)),(1,vv (I6 a)),(2,vv (I6 m)),(3,vv (I6 b)),(4,vv gR),(18,vv (I6 md)),(19,vv (I6 nn)),(20,vv (I6 s0)),(21,vv (I6 r0))] [(1003,yx zs)] [(0,o1 (.sl 1003 0 n))]) ?_ ?_
 ·refine bM rfl (fun h=> ?_) (fun h=> ?_)
  ·have h:m > md:=by omega
   rw [if_pos h] at hs0 hr0
   have e6:IntKind.i64.wrap ((nn:Int) - (b:Int))=(s0:Int):=by rw [IntWalk.i64_in _ (by omega)];omega
   subst hr0
   (refine aj ?_;refine ag ?_;apply ae rfl;(exact ah rfl rfl);apply ae rfl;(exact ah rfl rfl);apply ae rfl;(exact bf rfl rfl rfl e6);apply ae rfl;(exact ai rfl rfl);refine aq ?_;refine an ?_;refine ag ?_;apply ae rfl;(exact ah rfl rfl);apply ae rfl;(exact ai rfl rfl);refine aq ?_)
   exact aU (Wk.of ⟨rfl,rfl,rfl,rfl,rfl,rfl,rfl,rfl,rfl,trivial⟩ ⟨rfl,trivial⟩ ⟨rfl,trivial⟩)
  ·have h:¬m > md:=by omega
   rw [if_neg h] at hs0 hr0
   subst hs0 hr0
   (refine aj ?_;refine ag ?_;apply ae rfl;(exact ah rfl rfl);apply ae rfl;(exact ai rfl rfl);refine aq ?_;refine an ?_;refine ag ?_;apply ae rfl;(exact ah rfl rfl);apply ae rfl;(exact ai rfl rfl);refine aq ?_)
   exact aU (Wk.of ⟨rfl,rfl,rfl,rfl,rfl,rfl,rfl,rfl,rfl,trivial⟩ ⟨rfl,trivial⟩ ⟨rfl,trivial⟩)
 have qw:∀c,s0≤c→c < r0→a≤c∧c < m∧m≤p - c∧p - c < b∧c≤p:=fun c h1 h2=>by
  by_cases h:m > md
  ·rw [if_pos h] at hs0 hr0;omega
  ·rw [if_neg h] at hs0 hr0;omega
 have hsr:s0≤r0∧r0≤m:=by
  by_cases h:m > md
  ·rw [if_pos h] at hs0 hr0;omega
  ·rw [if_neg h] at hs0 hr0;omega
 (refine an ?_;refine aj ?_;refine ag ?_;apply ae rfl;(exact ah rfl rfl);apply ae rfl;(exact bf rfl rfl rfl e5);apply ae rfl;(exact ai rfl rfl);refine aq ?_;refine an ?_;refine aj ?_;refine aD ?_)
 refine bx (fun q:Nat×Nat=>St.of [(0,o1 (.sl 1003 0 n)),(1,vv (I6 a)),(2,vv (I6 m)),(3,vv (I6 b)),(4,vv gR),(18,vv (I6 md)),(19,vv (I6 nn)),(20,vv (I6 q.1)),(21,vv (I6 q.2)),(22,vv (I6 p))] [(1003,yx zs)] [(0,o1 (.sl 1003 0 n))]) (fun q=>s0≤q.1∧q.1≤q.2∧q.2≤r0∧(∀t,s0≤t→t < q.1→key (aC zs t)≤key (aC zs (md + m - 1 - t)))∧(∀t,q.2≤t→t < r0→key (aC zs (md + m - 1 - t))≤key (aC zs t))) (fun q=>q.2 - q.1) (s0,r0) ⟨Nat.le_refl _,hsr.1,Nat.le_refl _,fun t h1 h2=>absurd h2 (by omega),fun t h1 h2=>absurd h2 (by omega)⟩ (Wk.of ⟨rfl,rfl,rfl,rfl,rfl,rfl,rfl,rfl,rfl,rfl,trivial⟩ ⟨rfl,trivial⟩ ⟨rfl,trivial⟩) ?_
 rintro ⟨i,j⟩ ⟨hi,hij,hj,hlo,hhi⟩
 dsimp only at hi hij hj hlo hhi ⊢
 (refine aj ?_;refine aj ?_;refine ag ?_;apply ae rfl;(exact ah rfl rfl);apply ae rfl;(exact ah rfl rfl);apply ae rfl;(exact aB rfl rfl rfl rfl);refine aq ?_;refine an ?_)
 refine bM rfl (fun hlt=> ?_) (fun hlt=> ?_)
 ·obtain ⟨h,hh⟩:∃h,(i + j) / 2=h:=⟨_,rfl⟩
  have hh1:i≤h:=by omega
  have hh2:h < j:=by omega
  obtain ⟨b1,b2,b3,b4,b5⟩:=qw h (by omega) (by omega)
  obtain ⟨d,hd⟩:∃d,p - h=d:=⟨_,rfl⟩
  rw [hd] at b3 b4
  have c3:IntKind.i64.wrap ((i:Int) + (j:Int))=((i + j:Nat):Int):=xl (by omega) (by omega)
  have ccu:IntKind.u64.wrap ((i + j:Nat):Int)=((i + j:Nat):Int):=by rw [IntKind.wrap_u64];omega
  have ccm:i + j < 1000000:=by omega
  have cci:IntKind.i64.wrap (((i + j) / 2:Nat):Int)=(((i + j) / 2:Nat):Int):=IntWalk.i64_in _ (by omega)
  have e6:IntKind.i64.wrap ((p:Int) - (h:Int))=(d:Int):=by rw [IntWalk.i64_in _ (by omega)];omega
  have hdn:d < n:=by omega
  have hhn:h < n:=by omega
  have gd:(aH zs)[d]? =some (I6 (aC zs d)):=aR (by omega)
  have gh:(aH zs)[h]? =some (I6 (aC zs h)):=aR (by omega)
  have hC:=wJ hr d h
  have hk:=hag h d b1 b2 b3 b4
  have hlz:eE (aC zs d) (aC zs h)=decide (nF (aC zs d) (aC zs h) < 0):=rfl
  have e8:IntKind.i64.wrap ((h:Int) + 1)=((h + 1:Nat):Int):=by rw [IntWalk.i64_in _ (by omega)];omega
  (refine aG ?_;refine an ?_;refine aD ?_;refine aj ?_;refine ag ?_;apply ae rfl;(exact ah rfl rfl);apply ae rfl;(exact ah rfl rfl);apply ae rfl;(first | exact aJ rfl rfl rfl c3 | exact aN (k2:= .u64) rfl rfl (by as_aux_lemma=>kernel_rfl) (by as_aux_lemma=>kernel_rfl) ccu | exact ek rfl rfl ccm | exact aN (k2:= .i64) rfl rfl (by as_aux_lemma=>kernel_rfl) (by as_aux_lemma=>kernel_rfl) cci);apply ae rfl;(first | exact aJ rfl rfl rfl c3 | exact aN (k2:= .u64) rfl rfl (by as_aux_lemma=>kernel_rfl) (by as_aux_lemma=>kernel_rfl) ccu | exact ek rfl rfl ccm | exact aN (k2:= .i64) rfl rfl (by as_aux_lemma=>kernel_rfl) (by as_aux_lemma=>kernel_rfl) cci);apply ae rfl;(first | exact aJ rfl rfl rfl c3 | exact aN (k2:= .u64) rfl rfl (by as_aux_lemma=>kernel_rfl) (by as_aux_lemma=>kernel_rfl) ccu | exact ek rfl rfl ccm | exact aN (k2:= .i64) rfl rfl (by as_aux_lemma=>kernel_rfl) (by as_aux_lemma=>kernel_rfl) cci);apply ae rfl;(first | exact aJ rfl rfl rfl c3 | exact aN (k2:= .u64) rfl rfl (by as_aux_lemma=>kernel_rfl) (by as_aux_lemma=>kernel_rfl) ccu | exact ek rfl rfl ccm | exact aN (k2:= .i64) rfl rfl (by as_aux_lemma=>kernel_rfl) (by as_aux_lemma=>kernel_rfl) cci);apply ae rfl;(exact ai rfl rfl);refine aq ?_;refine an ?_;refine aj ?_)
  rw [hh]
  apply dK 14 [] [[], [], [], [], [2,3], [1,2,3,4], [1,2,3,4,5], [], [], [7,8], [7,8,9], [0,1,2,3,4,5,6,7,8,9,10], [0,1,2,3,4,5,6,7,8,9,10,11], [0,1,2,3,4,5,6,7,8,9,10,11,12]] [158,159,160,161,162,163,164,165,166,167,168,169,170,171] [] (by kernel_rfl) (by kernel_rfl)
  ·(apply aF rfl;(intro S1 hS;exact ah rfl (hS.op rfl)))
   (apply aF rfl;(intro S1 hS;exact ah rfl (hS.op rfl)))
   (apply aF rfl;(intro S1 hS;exact ah rfl (hS.op rfl)))
   (apply aF rfl;(intro S1 hS;exact ah rfl (hS.op rfl)))
   (apply aF rfl;(intro S1 hS;exact bf rfl (hS.op rfl) (hS.op rfl) e6))
   (apply aF rfl;(intro S1 hS;exact aS (j:=d) rfl (hS.op rfl) (hS.op rfl) (hS.ch _ _ rfl) rfl (by as_aux_lemma=>kernel_rfl) rfl hdn hil))
   (apply aF rfl;(intro S1 hS;exact aV rfl (by as_aux_lemma=>kernel_rfl) (hS.op rfl) (hS.ch _ _ rfl) rfl gd))
   (apply aF rfl;(intro S1 hS;exact ah rfl (hS.op rfl)))
   (apply aF rfl;(intro S1 hS;exact ah rfl (hS.op rfl)))
   (apply aF rfl;(intro S1 hS;exact aS (j:=h) rfl (hS.op rfl) (hS.op rfl) (hS.ch _ _ rfl) rfl (by as_aux_lemma=>kernel_rfl) rfl hhn hil))
   (apply aF rfl;(intro S1 hS;exact aV rfl (by as_aux_lemma=>kernel_rfl) (hS.op rfl) (hS.ch _ _ rfl) rfl gh))
   (apply aF rfl;(intro S1 hS;exact sv (args:= [vv (I6 (aC zs d)),vv (I6 (aC zs h))]) (hS.op rfl) hC (by as_aux_lemma=>kernel_rfl) rfl (ez hS rfl) ⟨rfl,rfl,trivial⟩ trivial rfl rfl))
   (apply aF rfl;(intro S1 hS;exact aB rfl (hS.op rfl) (hS.op rfl) rfl))
   (apply aF rfl;(intro S1 hS;exact bK rfl (hS.op rfl)))
   exact eR.nil
  ·rfl
  ((refine bF (by as_aux_lemma=>kernel_rfl) ?_;skip))
  (refine an ?_)
  refine ax rfl (fun e=> ?_) (fun e=> ?_)
  ·have hk:key (aC zs h)≤key (aC zs d):=Nat.le_of_not_lt fun e'=>by rw [←hlz,hk.2 e'] at e;cases e
   (refine ag ?_;apply ae rfl;(exact ah rfl rfl);apply ae rfl;(exact aJ rfl rfl rfl e8);apply ae rfl;(exact ai rfl rfl);refine aq ?_;refine aI ?_)
   exact aX (h + 1,j) ⟨by dsimp only;omega,by dsimp only;omega,hj,fun t t1 t2=>by
    dsimp only at t2
    by_cases e:t=h
    ·rw [e,show md + m - 1 - h=d by omega];exact hk
    ·have hbt:=qw t t1 (by omega)
     exact Nat.le_trans (hA t h (by omega) (by omega) (by omega)) (Nat.le_trans hk (hB _ _ (by omega) (by omega) (by omega))),hhi⟩ (by dsimp only;omega) (Wk.of ⟨rfl,rfl,rfl,rfl,rfl,rfl,rfl,rfl,rfl,rfl,trivial⟩ ⟨rfl,trivial⟩ ⟨rfl,trivial⟩)
  ·have hk:key (aC zs d) < key (aC zs h):=by
    rw [←hlz] at e
    exact hk.1 (by cases hx:eE (aC zs d) (aC zs h) with
     | true=>rfl
     | false=>rw [hx] at e;cases e)
   (refine ag ?_;apply ae rfl;(exact ah rfl rfl);apply ae rfl;(exact ai rfl rfl);refine aq ?_;refine aI ?_)
   exact aX (i,h) ⟨hi,hh1,by dsimp only;omega,hlo,fun t t1 t2=>by
    dsimp only at t1
    by_cases e:t=h
    ·rw [e,show md + m - 1 - h=d by omega];omega
    ·have:=qw t (by omega) t2
     exact Nat.le_trans (hB _ _ (by omega) (by omega) (by omega)) (Nat.le_trans (Nat.le_of_lt hk) (hA h t (by omega) (by omega) (by omega)))⟩ (by dsimp only;omega) (Wk.of ⟨rfl,rfl,rfl,rfl,rfl,rfl,rfl,rfl,rfl,rfl,trivial⟩ ⟨rfl,trivial⟩ ⟨rfl,trivial⟩)
 obtain rfl:i=j:=by omega
 have hc:=yw (key:=key) (zs:=zs) (st:=i) hmd.symm ham hmb hA hB (by rw [hs0];exact hi) (by rw [hr0];exact hj) (by rw [hs0];exact hlo) (by rw [hr0];exact hhi)
 obtain ⟨en,hen⟩:∃en,md + m - i=en:=⟨_,rfl⟩
 rw [hen] at hc
 have c1:=hc.s1
 have c2:=hc.s2
 have c3:=hc.e1
 have c4:=hc.e2
 have c5:=hc.sum
 have e7:IntKind.i64.wrap ((nn:Int) - (i:Int))=(en:Int):=by rw [IntWalk.i64_in _ (by omega)];omega
 clear hlo hhi hi hj hlt qw hsr
 (repeat (first | refine aj ?_ | refine an ?_ | refine aG ?_ | refine aD ?_ | refine aI ?_ | refine a6 ?_ | refine aP ?_ | refine bP rfl ?_ | refine aE ?_))
 refine cq (St.of [(0,o1 (.sl 1003 0 n)),(1,vv (I6 a)),(2,vv (I6 m)),(3,vv (I6 b)),(4,vv gR),(18,vv (I6 md)),(20,vv (I6 i)),(24,vv (I6 en))] [(1003,yx zs)] [(0,o1 (.sl 1003 0 n))]) ?_ ?_
 ·(refine ag ?_;apply ae rfl;(exact ah rfl rfl);apply ae rfl;(exact ah rfl rfl);apply ae rfl;(exact bf rfl rfl rfl e7);apply ae rfl;(exact ai rfl rfl);refine aq ?_)
  exact aU (Wk.of ⟨rfl,rfl,rfl,rfl,rfl,rfl,rfl,rfl,trivial⟩ ⟨rfl,trivial⟩ ⟨rfl,trivial⟩)
 refine an ?_
 refine aj ?_
 refine nr (p:=fun z=>rr zs z i m en) (fun z=>St.of [(0,o1 (.sl 1003 0 n)),(1,vv (I6 a)),(2,vv (I6 m)),(3,vv (I6 b)),(4,vv gR),(18,vv (I6 md)),(20,vv (I6 i)),(24,vv (I6 en))] [(1003,yx z)] [(0,o1 (.sl 1003 0 n))]) ?_ ?_
 ·(refine aj ?_;refine ag ?_;apply ae rfl;(exact ah rfl rfl);apply ae rfl;(exact ah rfl rfl);apply ae rfl;(exact aB rfl rfl rfl rfl);apply ae rfl;(exact ah rfl rfl))
  refine bH 181 rfl (fun h=> ?_) (fun h=> ?_)
  ·have hB1:i < m:=by simpa using h
   (apply aw rfl rfl rfl;(exact ah rfl rfl);apply aw rfl rfl rfl;(exact ah rfl rfl);apply aw rfl rfl rfl;(exact aB rfl rfl rfl rfl);apply ae rfl;(exact aY rfl rfl rfl);refine aq ?_;refine an ?_)
   refine bM rfl (fun hC=> ?_) (fun hC=> ?_)
   ·(refine ag ?_;apply ae rfl;(exact ah rfl rfl);apply ae rfl;(exact ah rfl rfl);apply ae rfl;(exact ah rfl rfl);apply ae rfl;(exact ah rfl rfl);apply ae rfl;(exact ah rfl rfl))
    refine ou rfl (kU (p:=fun z=>rr zs z i m en) (vs:= [I6 i,I6 m,I6 en,gR]) rfl (by as_aux_lemma=>kernel_rfl) rfl rfl hzl (by omega) fun ao c w ho=>qh ao n c i m en zs w 0 ho hn hB1 (by omega) (by omega) gR) fun zs1 hrot=> ?_
    (refine aq ?_)
    exact fG zs1 hrot (Wk.of ⟨rfl,rfl,rfl,rfl,rfl,rfl,rfl,rfl,trivial⟩ ⟨rfl,trivial⟩ ⟨rfl,trivial⟩)
   ·(refine aG ?_)
    exact fG zs (rr.none (by omega) c2 c3) (Wk.of ⟨rfl,rfl,rfl,rfl,rfl,rfl,rfl,rfl,trivial⟩ ⟨rfl,trivial⟩ ⟨rfl,trivial⟩)
  ·have hB1:¬i < m:=by simpa using h
   (apply aA rfl rfl rfl rfl rfl;apply aA rfl rfl rfl rfl rfl;apply aA rfl rfl rfl rfl rfl;apply ae rfl;(exact a7 rfl rfl rfl);refine aq ?_;refine an ?_)
   refine ax rfl (fun e=>by cases e) (fun _=> ?_)
   (refine aG ?_)
   exact fG zs (rr.none (by omega) c2 c3) (Wk.of ⟨rfl,rfl,rfl,rfl,rfl,rfl,rfl,rfl,trivial⟩ ⟨rfl,trivial⟩ ⟨rfl,trivial⟩)
 intro zs1 hrot
 have hv:=sS hc hA hB hag hrot
 have hr1:nq zs1:=hr.perm hrot.kept.perm
 have hz1:zs1.length=n:=hrot.kept.len.trans hzl
 refine an ?_
 refine aj ?_
 refine nr (p:=fun z=>Kept zs1 z a md∧fS key z a md) (fun z=>St.of [(0,o1 (.sl 1003 0 n)),(1,vv (I6 a)),(2,vv (I6 m)),(3,vv (I6 b)),(4,vv gR),(18,vv (I6 md)),(20,vv (I6 i)),(24,vv (I6 en))] [(1003,yx z)] [(0,o1 (.sl 1003 0 n))]) ?_ ?_
 ·(refine aj ?_;refine ag ?_;apply ae rfl;(exact ah rfl rfl);apply ae rfl;(exact ah rfl rfl);apply ae rfl;(exact aB rfl rfl rfl rfl);apply ae rfl;(exact ah rfl rfl))
  refine bH 195 rfl (fun h=> ?_) (fun h=> ?_)
  ·have hA1:a < i:=by simpa using h
   (apply aw rfl rfl rfl;(exact ah rfl rfl);apply aw rfl rfl rfl;(exact ah rfl rfl);apply aw rfl rfl rfl;(exact aB rfl rfl rfl rfl);apply ae rfl;(exact aY rfl rfl rfl);refine aq ?_;refine an ?_)
   refine bM rfl (fun hC=> ?_) (fun hC=> ?_)
   ·(refine ag ?_;apply ae rfl;(exact ah rfl rfl);apply ae rfl;(exact ah rfl rfl);apply ae rfl;(exact ah rfl rfl);apply ae rfl;(exact ah rfl rfl);apply ae rfl;(exact ah rfl rfl))
    refine ou rfl (kU (p:=fun z=>Kept zs1 z a md∧fS key z a md) (vs:= [I6 a,I6 i,I6 md,gR]) rfl (by as_aux_lemma=>kernel_rfl) rfl rfl hz1 (by omega) fun ao c w ho=>ih a i md zs1 ao c 0 w (by omega) ho hA1 (by omega) (by omega) hr1 hv.o1 hv.o2 hv.g1) fun zs2 h2=> ?_
    (refine aq ?_)
    exact fG zs2 h2 (Wk.of ⟨rfl,rfl,rfl,rfl,rfl,rfl,rfl,rfl,trivial⟩ ⟨rfl,trivial⟩ ⟨rfl,trivial⟩)
   ·(refine aG ?_)
    exact fG zs1 ⟨Kept.refl _ _ _,hv.o1.glue hv.o2 (by omega)⟩ (Wk.of ⟨rfl,rfl,rfl,rfl,rfl,rfl,rfl,rfl,trivial⟩ ⟨rfl,trivial⟩ ⟨rfl,trivial⟩)
  ·have hA1:¬a < i:=by simpa using h
   (apply aA rfl rfl rfl rfl rfl;apply aA rfl rfl rfl rfl rfl;apply aA rfl rfl rfl rfl rfl;apply ae rfl;(exact a7 rfl rfl rfl);refine aq ?_;refine an ?_)
   refine ax rfl (fun e=>by cases e) (fun _=> ?_)
   (refine aG ?_)
   exact fG zs1 ⟨Kept.refl _ _ _,hv.o1.glue hv.o2 (by omega)⟩ (Wk.of ⟨rfl,rfl,rfl,rfl,rfl,rfl,rfl,rfl,trivial⟩ ⟨rfl,trivial⟩ ⟨rfl,trivial⟩)
 rintro zs2 ⟨k2,a2⟩
 have hz2:zs2.length=n:=k2.len.trans hz1
 have fin:∀zs3,Kept zs2 zs3 md b→fS key zs3 md b→Kept zs zs3 a b∧fS key zs3 a b:=fun zs3 k3 a3=>by
  obtain ⟨f1,f2⟩:=vi (by omega) (by omega) k2 a2 k3 a3 hv.ac
  exact ⟨(hrot.kept.wide (by omega) (by omega)).trans f1,f2⟩
 have o3:=hv.o3.j0 k2 (.inl (Nat.le_refl _))
 have o4:=hv.o4.j0 k2 (.inl (by omega))
 have g2:=hv.g2.j0 k2 (.inl (Nat.le_refl _))
 (refine an ?_;refine aj ?_;refine ag ?_;apply ae rfl;(exact ah rfl rfl);apply ae rfl;(exact ah rfl rfl);apply ae rfl;(exact aB rfl rfl rfl rfl);apply ae rfl;(exact ah rfl rfl))
 refine bH 209 rfl (fun h=> ?_) (fun h=> ?_)
 ·have hB1:md < en:=by simpa using h
  (apply aw rfl rfl rfl;(exact ah rfl rfl);apply aw rfl rfl rfl;(exact ah rfl rfl);apply aw rfl rfl rfl;(exact aB rfl rfl rfl rfl);apply ae rfl;(exact aY rfl rfl rfl);refine aq ?_;refine an ?_)
  refine bM rfl (fun hD=> ?_) (fun hD=> ?_)
  ·(refine ag ?_;apply ae rfl;(exact ah rfl rfl);apply ae rfl;(exact ah rfl rfl);apply ae rfl;(exact ah rfl rfl);apply ae rfl;(exact ah rfl rfl);apply ae rfl;(exact ah rfl rfl))
   refine ou rfl (kU (p:=fun z=>Kept zs2 z md b∧fS key z md b) (vs:= [I6 md,I6 en,I6 b,gR]) rfl (by as_aux_lemma=>kernel_rfl) rfl rfl hz2 (by omega) fun ao c w ho=>ih md en b zs2 ao c 0 w (by omega) ho hB1 (by omega) hb (hr1.perm k2.perm) o3 o4 g2) fun zs3 h3=> ?_
   (refine aq ?_)
   exact kN zs3 (fin zs3 h3.1 h3.2) (.inr rfl) rfl ⟨rfl,trivial⟩ ⟨rfl,trivial⟩
  ·(refine aG ?_)
   exact kN zs2 (fin zs2 (Kept.refl _ _ _) (o3.glue o4 (by omega))) (.inr rfl) rfl ⟨rfl,trivial⟩ ⟨rfl,trivial⟩
 ·have hB1:¬md < en:=by simpa using h
  (apply aA rfl rfl rfl rfl rfl;apply aA rfl rfl rfl rfl rfl;apply aA rfl rfl rfl rfl rfl;apply ae rfl;(exact a7 rfl rfl rfl);refine aq ?_;refine an ?_)
  refine ax rfl (fun e=>by cases e) (fun _=> ?_)
  (refine aG ?_)
  exact kN zs2 (fin zs2 (Kept.refl _ _ _) (o3.glue o4 (by omega))) (.inr rfl) rfl ⟨rfl,trivial⟩ ⟨rfl,trivial⟩
theorem pt (key:Int→Nat) (n:Nat) (hn:n≤1000):∀(N a m b:Nat) (zs:List Int) (ao:Option Addr) (c base:Nat) (w:World),b - a≤N→Own w base 2 ao n c (zs.map (Value.int .i64))→a < m→m < b→b≤n→nq zs→
  fS key zs a m→fS key zs m b→s9 key eE zs a m b→
  Calls Tryz.prog 158 #[.slice ao n c, .int .i64 a, .int .i64 m, .int .i64 b,gR] w fun e w'=>e= .returned (.tuple #[])∧kh key zs a b ao n c base w w'
 | 0,a,m,b,zs,ao,c,base,w,hN,h,ham,hmb,hb,hr,hA,hB,hag=>by omega
 | N + 1,a,m,b,zs,ao,c,base,w,hN,h,ham,hmb,hb,hr,hA,hB,hag=>by
  have hzl:zs.length=n:=by have:=h.len;simpa using this
  obtain ⟨g,rfl, -⟩:=h.form (by omega)
  by_cases h1:m=a + 1
  ·subst h1
   exact uW key g n c a b zs w base h hn hmb hb hr hB hag
  by_cases h2:b=m + 1
  ·subst h2
   exact tr key g n c a m zs w base h hn (by omega) hb hr hA hag
  exact (wo key zs n a m b hn hzl (by omega) (by omega) hb hr hA hB hag fun a' m' b' zs' ao' c' base' w' hlt=>pt key n hn N a' m' b' zs' ao' c' base' w' (by omega)).gS (vs:= [I6 a,I6 m,I6 b,gR]) hzl (fun z hz=>hz.1.len.trans hzl) (by omega) h
end Go.Proofs.YtekbhbcgoadciaaGreat
namespace Go.Proofs.YtekbhbcgoadciaaGreat
open Go.RowKit
theorem xx {key:Int→Nat} {less:Int→Int→Bool} {zs z1 z2:List Int} {m n:Nat} (hm:m≤n) (h:nI key less zs 0 n) (k1:Kept zs z1 0 m) (k2:Kept z1 z2 m n):s9 key less z2 0 m n:=fun i j i1 i2 i3 i4=>by
 obtain ⟨x,x1,x2,x3⟩:=k1.mem i i1 i2
 obtain ⟨y,y1,y2,y3⟩:=k2.mem j i3 i4
 rw [k2.out i (.inl i2),x3,y3,k1.out y (.inr y1)]
 exact h x y x1 (by omega) y2
theorem oK {key:Int→Nat} {less:Int→Int→Bool} {zs:List Int} {a b a' b':Nat} (h:nI key less zs a b) (ha:a≤a') (hb:b'≤b):nI key less zs a' b':=fun i j i1 i2 i3=>h i j (by omega) i2 (by omega)
theorem tg {key:Int→Nat} {less:Int→Int→Bool} {zs z1:List Int} {a m b:Nat} (h:nI key less zs m b) (k:Kept zs z1 a m):nI key less z1 m b:=fun i j i1 i2 i3=>by
 rw [k.out i (.inr i1),k.out j (.inr (by omega))];exact h i j i1 i2 i3
set_option maxRecDepth 100000 in
set_option maxHeartbeats 1600000 in
theorem q4 (key:Int→Nat) (ao:Option Addr) (n c:Nat) (zs:List Int) (w:World) (base:Nat) (h:Own w base 2 ao n c (zs.map (Value.int .i64))) (hn:n≤32) (hr:nq zs) (hag:nI key eE zs 0 n):
  Calls Tryz.prog 139 #[.slice ao n c, .int .i64 n,gR] w fun e w'=>e= .returned (.tuple #[])∧kh key zs 0 n ao n c base w w':=by
 have HR:=Lib.hid hr
 have HAG:=Lib.hid hag
 clear hr hag
 by_cases h20:n < 20
 ·have hI:=fun (w1:World) (h1:Own w1 base 2 ao n c (zs.map (Value.int .i64)))=>ix key ao n c 0 n zs w1 base h1 (by omega) (Nat.zero_le _) (Nat.le_refl _) HR.out HAG.out
  go_enter Tryz.func139,Tryz.ntmps139
  go_wp2_with fail
  refine wp_loop_rounds 1 ?_
  rw [rounds_succ]
  go_wp2_with fail
  refine (hI _ h).mono ?_
  rintro e w1 ⟨rfl,zt,hz,ho,hg⟩
  have HZ:=Lib.hid hz
  have HO:=Lib.hid ho
  have HG:=Lib.hid hg
  clear hz ho hg
  go_wp2_with fail
  refine wp_loop_rounds 1 ?_
  rw [rounds_succ]
  go_wp2_with fail
  go_end0
  exact ⟨rfl,zt,HZ.out,HO.out,HG.out⟩
 ·have hI:=fun (w1:World) (h1:Own w1 base 2 ao n c (zs.map (Value.int .i64)))=>ix key ao n c 0 20 zs w1 base h1 (by omega) (by omega) (by omega) HR.out (oK HAG.out (Nat.le_refl _) (by omega))
  go_enter Tryz.func139,Tryz.ntmps139
  go_wp2_with fail
  refine wp_loop_rounds 2 ?_
  rw [rounds_succ]
  go_wp2_with fail
  refine (hI _ h).mono ?_
  rintro e w1 ⟨rfl,z1,hz,ho,hg⟩
  have HZ:=Lib.hid hz
  have HO:=Lib.hid ho
  have HG:=Lib.hid hg
  clear hz ho hg
  go_wp2_with fail
  rw [rounds_succ]
  go_wp2_with fail
  refine (ix key ao n c 20 n z1 _ base HO.out (by omega) (by omega) (Nat.le_refl _) (HR.out.perm HZ.out.1.perm) (tg (oK HAG.out (by omega) (Nat.le_refl _)) HZ.out.1)).mono ?_
  rintro e w2 ⟨rfl,z2,hz,ho,hg⟩
  have HZ2:=Lib.hid hz
  have HO2:=Lib.hid ho
  have HG2:=Lib.hid (bO HG.out hg)
  clear hz ho hg
  go_wp2_with fail
  by_cases hn2:20 < n
  ·refine wp_loop_rounds 2 ?_
   rw [rounds_succ]
   go_wp2_with fail
   refine wp_loop_rounds 1 ?_
   rw [rounds_succ]
   go_wp2_with fail
   refine (pt key n (by omega) n 0 20 n z2 ao c base _ (by omega) HO2.out (by omega) hn2 (Nat.le_refl _) ((HR.out.perm HZ.out.1.perm).perm HZ2.out.1.perm) (HZ.out.2.j0 HZ2.out.1 (.inr (Nat.le_refl _))) HZ2.out.2 (xx (by omega) HAG.out HZ.out.1 HZ2.out.1)).mono ?_
   rintro e w3 ⟨rfl,z3,hz,ho,hg⟩
   have HZ3:=Lib.hid hz
   have HO3:=Lib.hid ho
   have HG3:=Lib.hid (bO HG2.out hg)
   clear hz ho hg
   go_wp2_with fail
   rw [rounds_succ]
   go_wp2_with fail
   go_end0
   exact ⟨rfl,z3,⟨((HZ.out.1.wide (Nat.le_refl _) (by omega)).trans (HZ2.out.1.wide (by omega) (Nat.le_refl _))).trans HZ3.out.1,HZ3.out.2⟩,HO3.out,HG3.out⟩
  ·refine wp_loop_rounds 1 ?_
   rw [rounds_succ]
   go_wp2_with fail
   go_end0
   obtain rfl:n=20:=by omega
   exact ⟨rfl,z2,⟨(HZ.out.1).trans (HZ2.out.1.wide (by omega) (Nat.le_refl _)),HZ.out.2.j0 HZ2.out.1 (.inr (Nat.le_refl _))⟩,HO2.out,HG2.out⟩
set_option maxHeartbeats 800000 in
theorem lZ (key:Int→Nat) (ao:Option Addr) (n c:Nat) (zs:List Int) (w:World) (base:Nat) (h:Own w base 2 ao n c (zs.map (Value.int .i64))) (hn:n≤32) (hr:nq zs) (hag:nI key eE zs 0 n):
  Calls Tryz.prog 111 #[.slice ao n c,gR] w fun e w'=>e= .returned (.tuple #[])∧kh key zs 0 n ao n c base w w':=by
 have HR:=Lib.hid hr
 have HAG:=Lib.hid hag
 clear hr hag
 go_enter Tryz.func111,Tryz.ntmps111
 go_wp2_with fail
 refine (q4 key ao n c zs _ base h hn HR.out HAG.out).mono ?_
 rintro e w1 ⟨rfl,zt,hz,ho,hg⟩
 go_wp2
 go_end0
 exact ⟨rfl,zt,hz,ho,hg⟩
end Go.Proofs.YtekbhbcgoadciaaGreat
namespace Go.Proofs.YtekbhbcgoadciaaGreat
open Go.RowKit
theorem uy {zs:List Int} {m:Int} (hd:bz zs=false):ld zs m=1:=by unfold ld;rw [hd,if_neg (by simp)]
end Go.Proofs.YtekbhbcgoadciaaGreat
namespace Go.Proofs.YtekbhbcgoadciaaGreat
open Go.RowKit
def dU (r:Nat) (p:Nat×List Int):Bool:= !((p.1 &&& r) == 0)
def dz (zs:List Int) (set r:Nat):Bool:=(comps zs set).all (dU r)
def mR (ps:cT) (r:Nat):Int:=match ps.findIdx? (fun p=> !dU r p) with | some k=>(k:Int) | none=> -1
theorem tY {ps:cT} {r j:Nat} (hj:j < ps.length) (h1:∀x,x < j→dU r (cx ps x)=true) (h2:dU r (cx ps j)=false):mR ps r=j:=by
 have:ps.findIdx? (fun p=> !dU r p)=some j:=by
  rw [List.findIdx?_eq_some_iff_getElem]
  refine ⟨hj,by rw [←eM hj,h2];rfl,fun x hx=> ?_⟩
  have:=h1 x hx
  rw [eM (by omega)] at this
  rw [this];simp
 unfold mR;rw [this]
theorem m8 {ps:cT} {r:Nat} (h1:∀x,x < ps.length→dU r (cx ps x)=true):mR ps r= -1:=by
 have:ps.findIdx? (fun p=> !dU r p)=none:=by
  rw [List.findIdx?_eq_none_iff]
  intro p hp
  obtain ⟨x,hx,rfl⟩:=List.getElem_of_mem hp
  have:=h1 x hx
  rw [eM hx] at this
  rw [this];rfl
 unfold mR;rw [this]
theorem uO (ps:cT) (r:Nat):(!decide (mR ps r≥0))=ps.all (dU r):=by
 cases h:ps.all (dU r) with
 | true=>
  rw [List.all_eq_true] at h
  rw [m8 fun x hx=>h _ (fx hx)];rfl
 | false=>
  have:∃k,ps.findIdx? (fun p=> !dU r p)=some k:=by
   cases hf:ps.findIdx? (fun p=> !dU r p) with
   | some k=>exact ⟨k,rfl⟩
   | none=>
    rw [List.findIdx?_eq_none_iff] at hf
    have:ps.all (dU r)=true:=List.all_eq_true.2 fun p hp=>by simpa using hf p hp
    rw [this] at h;cases h
  obtain ⟨k,hk⟩:=this
  unfold mR;rw [hk];simp
abbrev tZ (r:Nat):Ch:=⟨false,2,1, .flat [.val (I6 (r:Int))]⟩
set_option maxRecDepth 100000 in
theorem xQ (cs:List gG) (mv r i m:Nat) (labs:List Int) (hi:cs[i]? =some (.r 2 1 m (aH labs))) (hmv:mv < 1000000) (hr:r < 1000000):
  FC Tryz.prog 110 [(1000,dj cs),(1006,tZ r)] [cA mv i m,o1 (.ptr 1006 0)] [] (vv (.bool (decide (((mv &&& r:Nat):Int)=0)))) []:=by
 refine a5 (nt:=9) Tryz.func110 rfl rfl (by simp) fun w0 ω0=> ?_
 (refine aj ?_;refine ag ?_;apply ae rfl;(exact eY rfl rfl rfl rfl);apply ae rfl;(exact ai rfl rfl);refine aq ?_;refine an ?_;refine aj ?_;refine ag ?_;apply ae rfl;(exact bm (d:=0) rfl rfl rfl (by as_aux_lemma=>kernel_rfl));apply ae rfl;(exact bW rfl (by as_aux_lemma=>kernel_rfl) rfl rfl rfl rfl);apply ae rfl;(exact bW rfl (by as_aux_lemma=>kernel_rfl) rfl rfl rfl rfl);apply ae rfl;(exact pj rfl rfl rfl hmv hr);apply ae rfl;(exact aB rfl rfl rfl rfl);apply ae rfl;(exact ai rfl rfl);refine aq ?_;refine an ?_;refine aK ?_)
 exact aW (.inl rfl) rfl (.tmp rfl) trivial trivial
set_option maxRecDepth 100000 in
theorem xR (ps:cT) (N r:Nat) (hN:ps.length=N) (h5:N≤5) (hr:r < 1000000) (hm:∀k,k < N→(cx ps k).1 < 1000000):
  FC Tryz.prog 138 [(1000,dj (eo ps)),(1006,tZ r)] [o1 (.sl 1000 0 N),o1 (.clo (.func 110) [(1006,0)])] [] (vv (I6 (mR ps r))) []:=by
 refine a5 (nt:=19) Tryz.func138 rfl rfl (by simp) fun w0 ω0=> ?_
 have hmx:=kg ps
 rw [hN] at hmx
 (refine aj ?_;refine ag ?_;apply ae rfl;(exact ai rfl rfl);refine aq ?_;refine an ?_;refine aj ?_;refine aj ?_;refine ag ?_;apply ae rfl;(exact ah rfl rfl);apply ae rfl;(exact br rfl rfl rfl (by as_aux_lemma=>kernel_rfl));apply ae rfl;(exact ah rfl rfl);refine aq ?_;refine an ?_;refine aD ?_)
 refine bx (fun j:Nat=>St.of [(0,o1 (.sl 1000 0 N)),(1,o1 (.clo (.func 110) [(1006,0)])),(7,vv (I6 N)),(8,vv (I6 j))] [(1000,dj (eo ps)),(1006,tZ r)]) (fun j=>j≤N∧∀x,x < j→dU r (cx ps x)=true) (fun j=>N - j) 0 ⟨Nat.zero_le _,fun x hx=>absurd hx (by omega)⟩ (Wk.of ⟨rfl,rfl,rfl,rfl,trivial⟩ ⟨rfl,rfl,trivial⟩ trivial) ?_
 rintro j ⟨hj,hall⟩
 (refine aj ?_;refine ag ?_;apply ae rfl;(exact aB rfl rfl rfl rfl);refine aq ?_;refine an ?_;refine aj ?_)
 refine bM rfl (fun hlt=> ?_) (fun hlt=> ?_)
 ·have hjN:j < N:=by omega
  have hjp:j < ps.length:=by omega
  have hagg:=ma hjp 1000
  have hcel:=(gu hjp).2
  have hix:N * 2≤(eo ps).length:=Nat.le_of_eq hmx.symm
  have hmk:=hm j hjN
  have hC:=xQ (eo ps) (cx ps j).1 r (j * 2 + 1) (cx ps j).2.length (cx ps j).2 hcel hmk hr
  have hrb:dU r (cx ps j)= !decide ((((cx ps j).1 &&& r:Nat):Int)=0):=by
   unfold dU
   congr 1
   by_cases e:(cx ps j).1 &&& r=0
   ·rw [e];rfl
   ·rw [decide_eq_false (by omega),beq_eq_false_iff_ne];exact e
  (refine aG ?_;refine an ?_;refine aj ?_;refine aD ?_;refine aj ?_;refine ag ?_;apply ae rfl;(exact ah rfl rfl);apply ae rfl;(exact ai rfl rfl);refine aq ?_;refine an ?_;refine aj ?_;refine ag ?_;apply ae rfl;(exact ah rfl rfl);apply ae rfl;(exact ah rfl rfl);apply ae rfl;(exact ah rfl rfl);apply ae rfl;(first | exact dy (k:=2) (j:=j) rfl rfl rfl rfl rfl (by as_aux_lemma=>kernel_rfl) rfl hjN hix (by omega) rfl | exact cw (k:=2) rfl rfl rfl rfl rfl (by as_aux_lemma=>kernel_rfl) hagg | exact ku (args:= [cA ((cx ps j).1:Nat) (j * 2 + 1) (cx ps j).2.length]) rfl hC (by as_aux_lemma=>kernel_rfl) rfl rfl ⟨⟨.inl rfl, .inl rfl,trivial⟩,trivial⟩ ⟨⟨_,rfl, .inl rfl⟩,⟨_,rfl, .inl rfl⟩,trivial⟩ rfl rfl);apply ae rfl;(first | exact dy (k:=2) (j:=j) rfl rfl rfl rfl rfl (by as_aux_lemma=>kernel_rfl) rfl hjN hix (by omega) rfl | exact cw (k:=2) rfl rfl rfl rfl rfl (by as_aux_lemma=>kernel_rfl) hagg | exact ku (args:= [cA ((cx ps j).1:Nat) (j * 2 + 1) (cx ps j).2.length]) rfl hC (by as_aux_lemma=>kernel_rfl) rfl rfl ⟨⟨.inl rfl, .inl rfl,trivial⟩,trivial⟩ ⟨⟨_,rfl, .inl rfl⟩,⟨_,rfl, .inl rfl⟩,trivial⟩ rfl rfl);apply ae rfl;(first | exact dy (k:=2) (j:=j) rfl rfl rfl rfl rfl (by as_aux_lemma=>kernel_rfl) rfl hjN hix (by omega) rfl | exact cw (k:=2) rfl rfl rfl rfl rfl (by as_aux_lemma=>kernel_rfl) hagg | exact ku (args:= [cA ((cx ps j).1:Nat) (j * 2 + 1) (cx ps j).2.length]) rfl hC (by as_aux_lemma=>kernel_rfl) rfl rfl ⟨⟨.inl rfl, .inl rfl,trivial⟩,trivial⟩ ⟨⟨_,rfl, .inl rfl⟩,⟨_,rfl, .inl rfl⟩,trivial⟩ rfl rfl);refine aq ?_;refine an ?_)
  refine ax rfl (fun e=> ?_) (fun e=> ?_)
  ·rw [e] at hrb
   rw [tY hjp hall (by rw [hrb];rfl)]
   (refine aj ?_;refine ag ?_;apply ae rfl;(exact ah rfl rfl);apply ae rfl;(exact ai rfl rfl);refine aq ?_;refine an ?_;refine aK ?_;refine bh ?_;refine aT ?_;refine aT ?_;refine bh ?_;refine aT ?_)
   exact aW (.inl rfl) rfl (.tmp rfl) trivial trivial
  ·rw [e] at hrb
   (refine aG ?_;refine aI ?_;refine an ?_;refine ag ?_;apply ae rfl;(exact aJ rfl rfl rfl (by first | exact IntWalk.i64_in _ (by omega) | rfl));apply ae rfl;(exact ah rfl rfl);refine aq ?_)
   exact aX (j + 1) ⟨by omega,fun x hx=>by
    by_cases ex:x=j
    ·rw [ex,hrb];rfl
    ·exact hall x (by omega)⟩ (by omega) (Wk.of ⟨rfl,rfl,rfl,rfl,trivial⟩ ⟨rfl,rfl,trivial⟩ trivial)
 ·obtain rfl:j=N:=by omega
  rw [m8 fun x hx=>hall x (by omega)]
  (refine a6 ?_;refine aE ?_;refine aE ?_;refine aP ?_;refine an ?_;refine aj ?_;refine ag ?_;apply ae rfl;(exact ai rfl rfl);refine aq ?_;refine an ?_;refine aK ?_)
  exact aW (.inl rfl) rfl (.tmp rfl) trivial trivial
set_option maxRecDepth 100000 in
theorem xE (ps:cT) (N r:Nat) (hN:ps.length=N) (h5:N≤5) (hr:r < 1000000) (hm:∀k,k < N→(cx ps k).1 < 1000000):
  FC Tryz.prog 109 [(1000,dj (eo ps)),(1006,tZ r)] [o1 (.sl 1000 0 N),o1 (.clo (.func 110) [(1006,0)])] [] (vv (.bool (decide (mR ps r≥0)))) []:=by
 have hI:=xR ps N r hN h5 hr hm
 refine a5 (nt:=9) Tryz.func109 rfl rfl (by simp) fun w0 ω0=> ?_
 (refine aj ?_;refine ag ?_;apply ae rfl;(exact ai rfl rfl);refine aq ?_;refine an ?_;refine aj ?_;refine ag ?_;apply ae rfl;(exact ah rfl rfl);apply ae rfl;(exact ah rfl rfl);apply ae rfl;(apply ar 138;exact au hI (by as_aux_lemma=>kernel_rfl) rfl rfl ⟨rfl,rfl,trivial⟩ ⟨⟨_,rfl, .inl rfl⟩,⟨_,rfl, .inl rfl⟩,trivial⟩ rfl rfl);apply ae rfl;(exact aB rfl rfl rfl rfl);apply ae rfl;(exact ai rfl rfl);refine aq ?_;refine an ?_;refine aK ?_)
 exact aW (.inl rfl) rfl (.tmp rfl) trivial trivial
theorem qe {zs:List Int} (h4:zs.length≤4) (mask:Nat):(comps zs mask).length≤5:=by
 have h1:=fq (comps zs mask);have h2:=(fu zs mask).sum;omega
theorem uP {zs:List Int} (h4:zs.length≤4) (mask:Nat):∀k,k < (comps zs mask).length→(cx (comps zs mask) k).1 < 1000000:=fun k hk=>by
 have h1:=(fu zs mask).lt _ (fx hk)
 have h2:2 ^ (zs.length + 1)≤2 ^ 5:=Nat.pow_le_pow_right (by decide) (by omega)
 omega
set_option maxRecDepth 100000 in
theorem nH (zs:List Int) (L r set:Nat) (hL:zs.length=L) (h4:L≤4) (hr:r < 1000) (hs:set < 1000):
  FC Tryz.prog 58 [(1003,cf zs)] [o1 (.sl 1003 0 L),vv (I6 r),vv (I6 set)] [] (vv (.bool (dz zs set r))) []:=by
 have hC:=(lU zs L set hL h4 hs).nm [(1003,1003),(2000,9)] (by kernel_rfl)
 have hC:FC Tryz.prog 69 [(1003,cf zs)] [o1 (.sl 1003 0 L),vv (I6 set)] [(9,mH (comps zs set))] (o1 (.sl 9 0 (comps zs set).length)) []:=hC
 have hH:=(xE (comps zs set) (comps zs set).length r rfl (qe (by omega) set) (by omega) (uP (by omega) set)).nm [(1000,9),(1006,4)] (by kernel_rfl)
 have hH:FC Tryz.prog 109 [(9,dj (eo (comps zs set))),(4,tZ r)] [o1 (.sl 9 0 (comps zs set).length),o1 (.clo (.func 110) [(4,0)])] [] (vv (.bool (decide (mR (comps zs set) r≥0)))) []:=hH
 have hv:dz zs set r= !decide (mR (comps zs set) r≥0):=(uO _ _).symm
 rw [hv]
 refine a5 (nt:=13) Tryz.func58 rfl rfl (by simp) fun w0 ω0=> ?_
 (refine aj ?_;refine ag ?_;apply ae rfl;(exact eY rfl rfl rfl rfl);apply ae rfl;(exact ai rfl rfl);refine aq ?_;refine an ?_;refine aj ?_;refine ag ?_;apply ae rfl;(exact ah rfl rfl);apply ae rfl;(exact ah rfl rfl);apply ae rfl;(first | (apply ar 69;exact bl hC (by as_aux_lemma=>kernel_rfl) rfl rfl ⟨rfl,rfl,trivial⟩ ⟨⟨_,rfl, .inl rfl⟩,trivial⟩ rfl rfl rfl) | exact gH rfl rfl | (apply ar 109;exact au hH (by as_aux_lemma=>kernel_rfl) rfl rfl ⟨rfl,rfl,trivial⟩ ⟨⟨_,rfl, .inr rfl⟩,⟨_,rfl, .inr rfl⟩,trivial⟩ rfl rfl));apply ae rfl;(first | (apply ar 69;exact bl hC (by as_aux_lemma=>kernel_rfl) rfl rfl ⟨rfl,rfl,trivial⟩ ⟨⟨_,rfl, .inl rfl⟩,trivial⟩ rfl rfl rfl) | exact gH rfl rfl | (apply ar 109;exact au hH (by as_aux_lemma=>kernel_rfl) rfl rfl ⟨rfl,rfl,trivial⟩ ⟨⟨_,rfl, .inr rfl⟩,⟨_,rfl, .inr rfl⟩,trivial⟩ rfl rfl));apply ae rfl;(first | (apply ar 69;exact bl hC (by as_aux_lemma=>kernel_rfl) rfl rfl ⟨rfl,rfl,trivial⟩ ⟨⟨_,rfl, .inl rfl⟩,trivial⟩ rfl rfl rfl) | exact gH rfl rfl | (apply ar 109;exact au hH (by as_aux_lemma=>kernel_rfl) rfl rfl ⟨rfl,rfl,trivial⟩ ⟨⟨_,rfl, .inr rfl⟩,⟨_,rfl, .inr rfl⟩,trivial⟩ rfl rfl));apply ae rfl;(exact bK rfl rfl);apply ae rfl;(exact ai rfl rfl);refine aq ?_;refine an ?_;refine aK ?_)
 exact aW (.inl rfl) rfl (.tmp rfl) trivial trivial
end Go.Proofs.YtekbhbcgoadciaaGreat
namespace Go.Proofs.YtekbhbcgoadciaaGreat
open Go.RowKit
def gB (r:Nat) (ps:cT):Bool:=ps.dropLast.all (dU r)
def rB (r:Nat) (ps:cT):Bool:=match ps.getLast? with | none=>true | some p=>dU r p
theorem n6 (r:Nat) (qs:cT) (p:Nat×List Int):gB r (qs ++ [p])=qs.all (dU r):=by unfold gB;rw [List.dropLast_concat]
theorem nD (r:Nat) (qs:cT) (p:Nat×List Int):rB r (qs ++ [p])=dU r p:=by unfold rB;rw [List.getLast?_concat]
theorem gX (ps:cT):ps= []∨∃qs p,ps=qs ++ [p]:=by
 rcases List.eq_nil_or_concat ps with h | ⟨qs,p,h⟩
 ·exact .inl h
 ·exact .inr ⟨qs,p,by rw [h,List.concat_eq_append]⟩
theorem uF (r:Nat) (ps:cT):ps.all (dU r)=(gB r ps && rB r ps):=by
 rcases gX ps with rfl | ⟨qs,p,rfl⟩
 ·rfl
 ·rw [n6,nD,List.all_append,List.all_cons,List.all_nil,Bool.and_true]
theorem pU (r i:Nat) (l:List Int):dU r (2 ^ i,l)=dM r i:=by
 unfold dU
 have h:dM r i=r.testBit i:=by unfold dM;rw [Nat.testBit_eq_decide_div_mod_eq];rfl
 rw [h]
 show (!(2 ^ i &&& r == 0))=_
 cases hb:r.testBit i with
 | true=>
  have:2 ^ i &&& r≠0:=fun e=>by
   have h2:(2 ^ i &&& r).testBit i=true:=by rw [Nat.testBit_and,Nat.testBit_two_pow_self,hb];rfl
   rw [e] at h2;simp at h2
  simpa using this
 | false=>
  have:2 ^ i &&& r=0:=by
   apply Nat.eq_of_testBit_eq
   intro j
   rw [Nat.testBit_and,Nat.zero_testBit,Nat.testBit_two_pow]
   by_cases e:i=j
   ·rw [←e,hb];simp
   ·simp [e]
  rw [this];rfl
theorem vl (r m i:Nat) (l l':List Int):dU r (m ||| 2 ^ i,l)=(dU r (m,l') || dM r i):=by
 rw [←pU r i []]
 unfold dU
 show (!((m ||| 2 ^ i) &&& r == 0))=(!(m &&& r == 0) || !(2 ^ i &&& r == 0))
 rw [Nat.and_or_distrib_right]
 by_cases h1:m &&& r=0
 ·rw [h1,Nat.zero_or];simp
 ·have:¬(m &&& r ||| 2 ^ i &&& r)=0:=fun e=>h1 (Nat.or_eq_zero_iff.1 e).1
  rw [beq_eq_false_iff_ne.2 this,beq_eq_false_iff_ne.2 h1];rfl
theorem lr {zs:List Int} {set i:Nat} (h:dM set i=false):eA zs set (i + 1)=eA zs set i:=by
 rw [eh];unfold fN;rw [if_neg (by rw [h];simp)]
theorem yb {zs:List Int} {set i:Nat} (r:Nat) (h:dM set i=true) (hj:jn zs set i=false):gB r (eA zs set (i + 1))=(gB r (eA zs set i) && rB r (eA zs set i))∧rB r (eA zs set (i + 1))=dM r i:=by
 rw [eh];unfold fN;rw [if_pos h,if_neg (by rw [hj];simp),n6,nD,pU,uF]
 exact ⟨rfl,rfl⟩
theorem vS {zs:List Int} {set i:Nat} (r:Nat) (h:dM set i=true) (hj:jn zs set i=true) (hi:i≤zs.length + 1):gB r (eA zs set (i + 1))=gB r (eA zs set i)∧rB r (eA zs set (i + 1))=(rB r (eA zs set i) || dM r i):=by
 have hok:=jf zs set i hi
 have hs:=fZ hj
 have hne:=hok.ne hs.1 hs.2.1
 rw [eh];unfold fN;rw [if_pos h,if_pos hj]
 rcases gX (eA zs set i) with e | ⟨qs,p,e⟩
 ·rw [e] at hne;exact absurd hne (by simp)
 ·rw [e]
  have hl:(qs ++ [p]).length - 1=qs.length:=by simp
  have hg:cx (qs ++ [p]) qs.length=p:=by rw [eM (by simp)];simp
  unfold jP
  rw [hl,hg,show (qs ++ [p]).set qs.length (p.1 ||| 2 ^ i,p.2 ++ [aC zs (i - 1)])=qs ++ [(p.1 ||| 2 ^ i,p.2 ++ [aC zs (i - 1)])] by rw [List.set_append_right _ _ (Nat.le_refl _)];simp,n6,n6,nD,nD]
  exact ⟨rfl,vl r p.1 i _ p.2⟩
set_option maxRecDepth 100000 in
set_option maxHeartbeats 2000000 in
theorem qt (zs:List Int) (L set r:Nat) (hL:zs.length=L) (h4:L≤4) (hs:set < 1000) (hr:r < 1000):
  FC Tryz.prog 100 [(1003,cf zs)] [o1 (.sl 1003 0 L),vv (I6 set),vv (I6 r)] [] (vv (.bool (dz zs set r))) []:=by
 have hR:=gw zs L h4
 have hil:L≤(aH zs).length:=by rw [aO,hL];exact Nat.le_refl _
 have hss:set < 1000000:=by omega
 have hrr:r < 1000000:=by omega
 refine a5 (nt:=58) Tryz.func100 rfl rfl (by simp) fun w0 ω0=> ?_
 (refine aj ?_;refine ag ?_;apply ae rfl;(exact ai rfl rfl);refine aq ?_;refine an ?_;refine aj ?_;refine ag ?_;apply ae rfl;(exact ai rfl rfl);refine aq ?_;refine an ?_;refine aj ?_;refine ag ?_;apply ae rfl;(exact ai rfl rfl);refine aq ?_;refine an ?_;refine aj ?_;refine aj ?_;refine ag ?_;apply ae rfl;(exact ai rfl rfl);refine aq ?_;refine an ?_;refine aD ?_)
 refine bx (fun i:Nat=>St.of [(0,o1 (.sl 1003 0 L)),(1,vv (I6 set)),(2,vv (I6 r)),(7,vv (.bool (gB r (eA zs set i)))),(8,vv (.bool (rB r (eA zs set i)))),(9,vv (I6 i))] [(1003,cf zs)]) (fun i=>i≤L + 1) (fun i=>L + 1 - i) 0 (Nat.zero_le _) (Wk.of ⟨rfl,rfl,rfl,rfl,rfl,rfl,trivial⟩ ⟨rfl,trivial⟩ trivial) ?_
 rintro i hi
 (refine aj ?_;refine aj ?_;refine ag ?_;apply ae rfl;(exact ah rfl rfl);apply ae rfl;(exact ah rfl rfl);apply ae rfl;(apply ar 50;exact au hR (by as_aux_lemma=>kernel_rfl) rfl rfl ⟨rfl,trivial⟩ ⟨⟨_,rfl, .inl rfl⟩,trivial⟩ rfl rfl);apply ae rfl;(exact aB rfl rfl rfl rfl);refine aq ?_;refine an ?_)
 refine bM rfl (fun hlt=> ?_) (fun hlt=> ?_)
 ·have hiL:i≤L:=by omega
  have hi64:i≤64:=by omega
  have hcv:IntKind.u64.wrap (i:Int)=(i:Int):=by rw [IntKind.wrap_u64];omega
  (refine aG ?_;refine an ?_;refine aj ?_;refine aD ?_;refine aj ?_;refine aj ?_;refine ag ?_;apply ae rfl;(exact ah rfl rfl);apply ae rfl;(exact ah rfl rfl);apply ae rfl;(first | exact aN rfl rfl (by as_aux_lemma=>kernel_rfl) (by as_aux_lemma=>kernel_rfl) hcv | exact bn (g:=i) rfl rfl rfl hi64 | exact bB rfl rfl hss | exact cG rfl rfl);apply ae rfl;(first | exact aN rfl rfl (by as_aux_lemma=>kernel_rfl) (by as_aux_lemma=>kernel_rfl) hcv | exact bn (g:=i) rfl rfl rfl hi64 | exact bB rfl rfl hss | exact cG rfl rfl);apply ae rfl;(first | exact aN rfl rfl (by as_aux_lemma=>kernel_rfl) (by as_aux_lemma=>kernel_rfl) hcv | exact bn (g:=i) rfl rfl rfl hi64 | exact bB rfl rfl hss | exact cG rfl rfl);apply ae rfl;(first | exact aN rfl rfl (by as_aux_lemma=>kernel_rfl) (by as_aux_lemma=>kernel_rfl) hcv | exact bn (g:=i) rfl rfl rfl hi64 | exact bB rfl rfl hss | exact cG rfl rfl);refine aq ?_;refine an ?_)
  refine ax rfl (fun hb=> ?_) (fun hb=> ?_)
  ·have hb:dM set i=false:=by simpa using hb
   have hv:=lr (zs:=zs) hb
   (refine a6 ?_;refine aE ?_;refine aP ?_;refine an ?_;refine ag ?_;apply ae rfl;(exact ah rfl rfl);apply ae rfl;(exact aJ rfl rfl rfl (by first | exact IntWalk.i64_in _ (by omega) | rfl));apply ae rfl;(exact ai rfl rfl);refine aq ?_)
   exact aX (i + 1) (by omega) (by omega) (Wk.of ⟨rfl,rfl,rfl,congrArg (fun z=>some (vv (.bool (gB r z)))) hv.symm,congrArg (fun z=>some (vv (.bool (rB r z)))) hv.symm,rfl,trivial⟩ ⟨rfl,trivial⟩ trivial)
  ·have hb:dM set i=true:=by simpa using hb
   (repeat (first | refine aj ?_ | refine an ?_ | refine aG ?_ | refine aD ?_ | refine aI ?_ | refine a6 ?_ | refine aP ?_ | refine bP rfl ?_ | refine aE ?_))
   refine cq (St.of [(0,o1 (.sl 1003 0 L)),(1,vv (I6 set)),(2,vv (I6 r)),(7,vv (.bool (gB r (eA zs set i)))),(8,vv (.bool (rB r (eA zs set i)))),(9,vv (I6 i)),(40,vv (.bool (!jn zs set i)))] [(1003,cf zs)]) ?_ ?_
   ·refine ag ?_
    (apply ae rfl;(exact ah rfl rfl);apply ae rfl;(exact aB rfl rfl rfl rfl);apply ae rfl;(exact ah rfl rfl))
    refine bH 24 rfl (fun h1=> ?_) (fun h1=> ?_)
    ·have hv:jn zs set i=false:=by
      have:¬0 < i:=by
       have:(i:Int)=0:=by simpa using h1
       omega
      unfold jn;rw [decide_eq_false this];rfl
     rw [hv]
     (apply aA rfl rfl rfl rfl rfl;apply aA rfl rfl rfl rfl rfl;apply aA rfl rfl rfl rfl rfl;apply aA rfl rfl rfl rfl rfl;apply aA rfl rfl rfl rfl rfl;apply aA rfl rfl rfl rfl rfl;apply aA rfl rfl rfl rfl rfl;apply ae rfl;(exact aY rfl rfl rfl);apply ae rfl;(exact ah rfl rfl);apply aA rfl rfl rfl rfl rfl;apply aA rfl rfl rfl rfl rfl;apply aA rfl rfl rfl rfl rfl;apply aA rfl rfl rfl rfl rfl;apply aA rfl rfl rfl rfl rfl;apply aA rfl rfl rfl rfl rfl;apply ae rfl;(exact aY rfl rfl rfl);refine aq ?_)
     exact aU (Wk.of ⟨rfl,rfl,rfl,rfl,rfl,rfl,rfl,trivial⟩ ⟨rfl,trivial⟩ trivial)
    ·have hi0:0 < i:=by
      have:(i:Int)≠0:=by simpa using h1
      omega
     have hsb:IntKind.i64.wrap ((i:Int) - 1)=((i - 1:Nat):Int):=(IntWalk.i64_in _ (by omega)).trans (by omega)
     have hcv1:IntKind.u64.wrap ((i - 1:Nat):Int)=((i - 1:Nat):Int):=by rw [IntKind.wrap_u64];omega
     have hi64':i - 1≤64:=by omega
     (apply aw rfl rfl rfl;(exact ah rfl rfl);apply aw rfl rfl rfl;(exact ah rfl rfl);apply aw rfl rfl rfl;(first | exact bf rfl rfl rfl hsb | exact aN rfl rfl (by as_aux_lemma=>kernel_rfl) (by as_aux_lemma=>kernel_rfl) hcv1 | exact bn (g:=i - 1) rfl rfl rfl hi64' | exact bB rfl rfl hss | exact cG rfl rfl);apply aw rfl rfl rfl;(first | exact bf rfl rfl rfl hsb | exact aN rfl rfl (by as_aux_lemma=>kernel_rfl) (by as_aux_lemma=>kernel_rfl) hcv1 | exact bn (g:=i - 1) rfl rfl rfl hi64' | exact bB rfl rfl hss | exact cG rfl rfl);apply aw rfl rfl rfl;(first | exact bf rfl rfl rfl hsb | exact aN rfl rfl (by as_aux_lemma=>kernel_rfl) (by as_aux_lemma=>kernel_rfl) hcv1 | exact bn (g:=i - 1) rfl rfl rfl hi64' | exact bB rfl rfl hss | exact cG rfl rfl);apply aw rfl rfl rfl;(first | exact bf rfl rfl rfl hsb | exact aN rfl rfl (by as_aux_lemma=>kernel_rfl) (by as_aux_lemma=>kernel_rfl) hcv1 | exact bn (g:=i - 1) rfl rfl rfl hi64' | exact bB rfl rfl hss | exact cG rfl rfl);apply aw rfl rfl rfl;(first | exact bf rfl rfl rfl hsb | exact aN rfl rfl (by as_aux_lemma=>kernel_rfl) (by as_aux_lemma=>kernel_rfl) hcv1 | exact bn (g:=i - 1) rfl rfl rfl hi64' | exact bB rfl rfl hss | exact cG rfl rfl);apply ae rfl;(exact a7 rfl rfl rfl);apply ae rfl;(exact ah rfl rfl))
     refine bH 33 rfl (fun h2=> ?_) (fun h2=> ?_)
     ·have h2:dM set (i - 1)=false:=by simpa using h2
      have hv:jn zs set i=false:=by unfold jn;rw [h2];simp
      rw [hv]
      (apply aA rfl rfl rfl rfl rfl;apply aA rfl rfl rfl rfl rfl;apply aA rfl rfl rfl rfl rfl;apply aA rfl rfl rfl rfl rfl;apply aA rfl rfl rfl rfl rfl;apply aA rfl rfl rfl rfl rfl;apply ae rfl;(exact aY rfl rfl rfl);refine aq ?_)
      exact aU (Wk.of ⟨rfl,rfl,rfl,rfl,rfl,rfl,rfl,trivial⟩ ⟨rfl,trivial⟩ trivial)
     ·have h2:dM set (i - 1)=true:=by simpa using h2
      have gz:(aH zs)[i - 1]? =some (I6 (aC zs (i - 1))):=aR (by omega)
      have hv:(!jn zs set i)=(aC zs (i - 1) == 2):=by unfold jn;rw [decide_eq_true hi0,h2];simp
      rw [hv]
      (apply aw rfl rfl rfl;(exact ah rfl rfl);apply aw rfl rfl rfl;(exact ah rfl rfl);apply aw rfl rfl rfl;(first | exact bf rfl rfl rfl hsb | exact aS (j:=i - 1) rfl rfl rfl rfl rfl (by as_aux_lemma=>kernel_rfl) rfl (by omega) hil | exact aV rfl (by as_aux_lemma=>kernel_rfl) rfl rfl rfl gz);apply aw rfl rfl rfl;(first | exact bf rfl rfl rfl hsb | exact aS (j:=i - 1) rfl rfl rfl rfl rfl (by as_aux_lemma=>kernel_rfl) rfl (by omega) hil | exact aV rfl (by as_aux_lemma=>kernel_rfl) rfl rfl rfl gz);apply aw rfl rfl rfl;(first | exact bf rfl rfl rfl hsb | exact aS (j:=i - 1) rfl rfl rfl rfl rfl (by as_aux_lemma=>kernel_rfl) rfl (by omega) hil | exact aV rfl (by as_aux_lemma=>kernel_rfl) rfl rfl rfl gz);apply aw rfl rfl rfl;(exact aB rfl rfl rfl rfl);apply ae rfl;(exact a7 rfl rfl rfl);refine aq ?_)
      exact aU (Wk.of ⟨rfl,rfl,rfl,rfl,rfl,rfl,rfl,trivial⟩ ⟨rfl,trivial⟩ trivial)
   (refine an ?_)
   refine ax rfl (fun hjb=> ?_) (fun hjb=> ?_)
   ·have hjb:jn zs set i=false:=by simpa using hjb
    obtain ⟨hv1,hv2⟩:=yb r hb hjb
    cases hg:gB r (eA zs set i) with
    | true=>
     rw [hg,Bool.true_and] at hv1
     (refine aj ?_;refine ag ?_;apply ae rfl;(exact ah rfl rfl);apply ae rfl;(exact ah rfl rfl);apply aw rfl rfl rfl;(exact ah rfl rfl);apply ae rfl;(exact aY rfl rfl rfl);apply ae rfl;(exact ai rfl rfl);refine aq ?_;refine an ?_;refine ag ?_;apply ae rfl;(exact ai rfl rfl);refine aq ?_;refine an ?_;refine ag ?_;apply ae rfl;(exact ah rfl rfl);apply ae rfl;(exact ah rfl rfl);apply aw rfl rfl rfl;(exact ah rfl rfl);apply aw rfl rfl rfl;(exact ah rfl rfl);apply aw rfl rfl rfl;(first | exact aN rfl rfl (by as_aux_lemma=>kernel_rfl) (by as_aux_lemma=>kernel_rfl) hcv | exact bn (g:=i) rfl rfl rfl hi64 | exact bB rfl rfl hrr | exact bT rfl rfl);apply aw rfl rfl rfl;(first | exact aN rfl rfl (by as_aux_lemma=>kernel_rfl) (by as_aux_lemma=>kernel_rfl) hcv | exact bn (g:=i) rfl rfl rfl hi64 | exact bB rfl rfl hrr | exact bT rfl rfl);apply aw rfl rfl rfl;(first | exact aN rfl rfl (by as_aux_lemma=>kernel_rfl) (by as_aux_lemma=>kernel_rfl) hcv | exact bn (g:=i) rfl rfl rfl hi64 | exact bB rfl rfl hrr | exact bT rfl rfl);apply aw rfl rfl rfl;(first | exact aN rfl rfl (by as_aux_lemma=>kernel_rfl) (by as_aux_lemma=>kernel_rfl) hcv | exact bn (g:=i) rfl rfl rfl hi64 | exact bB rfl rfl hrr | exact bT rfl rfl);apply ae rfl;(exact a7 rfl rfl rfl);apply ae rfl;(exact ai rfl rfl);refine aq ?_;refine aI ?_;refine an ?_;refine ag ?_;apply ae rfl;(exact ah rfl rfl);apply ae rfl;(exact aJ rfl rfl rfl (by first | exact IntWalk.i64_in _ (by omega) | rfl));apply ae rfl;(exact ai rfl rfl);refine aq ?_)
     exact aX (i + 1) (by omega) (by omega) (Wk.of ⟨rfl,rfl,rfl,congrArg (fun z=>some (vv (.bool z))) hv1.symm,congrArg (fun z=>some (vv (.bool z))) hv2.symm,rfl,trivial⟩ ⟨rfl,trivial⟩ trivial)
    | false=>
     rw [hg,Bool.false_and] at hv1
     (refine aj ?_;refine ag ?_;apply ae rfl;(exact ah rfl rfl);apply ae rfl;(exact ah rfl rfl);apply aA rfl rfl rfl rfl rfl;apply ae rfl;(exact a7 rfl rfl rfl);apply ae rfl;(exact ai rfl rfl);refine aq ?_;refine an ?_;refine ag ?_;apply ae rfl;(exact ai rfl rfl);refine aq ?_;refine an ?_;refine ag ?_;apply ae rfl;(exact ah rfl rfl);apply ae rfl;(exact ah rfl rfl);apply aw rfl rfl rfl;(exact ah rfl rfl);apply aw rfl rfl rfl;(exact ah rfl rfl);apply aw rfl rfl rfl;(first | exact aN rfl rfl (by as_aux_lemma=>kernel_rfl) (by as_aux_lemma=>kernel_rfl) hcv | exact bn (g:=i) rfl rfl rfl hi64 | exact bB rfl rfl hrr | exact bT rfl rfl);apply aw rfl rfl rfl;(first | exact aN rfl rfl (by as_aux_lemma=>kernel_rfl) (by as_aux_lemma=>kernel_rfl) hcv | exact bn (g:=i) rfl rfl rfl hi64 | exact bB rfl rfl hrr | exact bT rfl rfl);apply aw rfl rfl rfl;(first | exact aN rfl rfl (by as_aux_lemma=>kernel_rfl) (by as_aux_lemma=>kernel_rfl) hcv | exact bn (g:=i) rfl rfl rfl hi64 | exact bB rfl rfl hrr | exact bT rfl rfl);apply aw rfl rfl rfl;(first | exact aN rfl rfl (by as_aux_lemma=>kernel_rfl) (by as_aux_lemma=>kernel_rfl) hcv | exact bn (g:=i) rfl rfl rfl hi64 | exact bB rfl rfl hrr | exact bT rfl rfl);apply ae rfl;(exact a7 rfl rfl rfl);apply ae rfl;(exact ai rfl rfl);refine aq ?_;refine aI ?_;refine an ?_;refine ag ?_;apply ae rfl;(exact ah rfl rfl);apply ae rfl;(exact aJ rfl rfl rfl (by first | exact IntWalk.i64_in _ (by omega) | rfl));apply ae rfl;(exact ai rfl rfl);refine aq ?_)
     exact aX (i + 1) (by omega) (by omega) (Wk.of ⟨rfl,rfl,rfl,congrArg (fun z=>some (vv (.bool z))) hv1.symm,congrArg (fun z=>some (vv (.bool z))) hv2.symm,rfl,trivial⟩ ⟨rfl,trivial⟩ trivial)
   ·have hjb:jn zs set i=true:=by simpa using hjb
    obtain ⟨hv1,hv2⟩:=vS r hb hjb (by omega)
    cases hg:rB r (eA zs set i) with
    | true=>
     rw [hg,Bool.true_or] at hv2
     (refine aG ?_;refine an ?_;refine ag ?_;apply ae rfl;(exact ah rfl rfl);apply ae rfl;(exact ah rfl rfl);apply aA rfl rfl rfl rfl rfl;apply aA rfl rfl rfl rfl rfl;apply aA rfl rfl rfl rfl rfl;apply aA rfl rfl rfl rfl rfl;apply aA rfl rfl rfl rfl rfl;apply aA rfl rfl rfl rfl rfl;apply ae rfl;(exact aY rfl rfl rfl);apply ae rfl;(exact ai rfl rfl);refine aq ?_;refine aI ?_;refine an ?_;refine ag ?_;apply ae rfl;(exact ah rfl rfl);apply ae rfl;(exact aJ rfl rfl rfl (by first | exact IntWalk.i64_in _ (by omega) | rfl));apply ae rfl;(exact ai rfl rfl);refine aq ?_)
     exact aX (i + 1) (by omega) (by omega) (Wk.of ⟨rfl,rfl,rfl,congrArg (fun z=>some (vv (.bool z))) hv1.symm,congrArg (fun z=>some (vv (.bool z))) hv2.symm,rfl,trivial⟩ ⟨rfl,trivial⟩ trivial)
    | false=>
     rw [hg,Bool.false_or] at hv2
     (refine aG ?_;refine an ?_;refine ag ?_;apply ae rfl;(exact ah rfl rfl);apply ae rfl;(exact ah rfl rfl);apply aw rfl rfl rfl;(exact ah rfl rfl);apply aw rfl rfl rfl;(exact ah rfl rfl);apply aw rfl rfl rfl;(first | exact aN rfl rfl (by as_aux_lemma=>kernel_rfl) (by as_aux_lemma=>kernel_rfl) hcv | exact bn (g:=i) rfl rfl rfl hi64 | exact bB rfl rfl hrr | exact bT rfl rfl);apply aw rfl rfl rfl;(first | exact aN rfl rfl (by as_aux_lemma=>kernel_rfl) (by as_aux_lemma=>kernel_rfl) hcv | exact bn (g:=i) rfl rfl rfl hi64 | exact bB rfl rfl hrr | exact bT rfl rfl);apply aw rfl rfl rfl;(first | exact aN rfl rfl (by as_aux_lemma=>kernel_rfl) (by as_aux_lemma=>kernel_rfl) hcv | exact bn (g:=i) rfl rfl rfl hi64 | exact bB rfl rfl hrr | exact bT rfl rfl);apply aw rfl rfl rfl;(first | exact aN rfl rfl (by as_aux_lemma=>kernel_rfl) (by as_aux_lemma=>kernel_rfl) hcv | exact bn (g:=i) rfl rfl rfl hi64 | exact bB rfl rfl hrr | exact bT rfl rfl);apply ae rfl;(exact a7 rfl rfl rfl);apply ae rfl;(exact ai rfl rfl);refine aq ?_;refine aI ?_;refine an ?_;refine ag ?_;apply ae rfl;(exact ah rfl rfl);apply ae rfl;(exact aJ rfl rfl rfl (by first | exact IntWalk.i64_in _ (by omega) | rfl));apply ae rfl;(exact ai rfl rfl);refine aq ?_)
     exact aX (i + 1) (by omega) (by omega) (Wk.of ⟨rfl,rfl,rfl,congrArg (fun z=>some (vv (.bool z))) hv1.symm,congrArg (fun z=>some (vv (.bool z))) hv2.symm,rfl,trivial⟩ ⟨rfl,trivial⟩ trivial)
 ·obtain rfl:i=L + 1:=by omega
  have hv:dz zs set r=(gB r (eA zs set (L + 1)) && rB r (eA zs set (L + 1))):=by unfold dz comps;rw [uF,hL]
  rw [hv]
  cases hg:gB r (eA zs set (L + 1)) with
  | true=>
   rw [Bool.true_and]
   (refine a6 ?_;refine aE ?_;refine aE ?_;refine aP ?_;refine an ?_;refine aj ?_;refine ag ?_;apply ae rfl;(exact ah rfl rfl);apply ae rfl;(exact ah rfl rfl);apply aw rfl rfl rfl;(exact ah rfl rfl);apply ae rfl;(exact aY rfl rfl rfl);apply ae rfl;(exact ai rfl rfl);refine aq ?_;refine an ?_;refine aK ?_)
   exact aW (.inl rfl) rfl (.tmp rfl) trivial trivial
  | false=>
   rw [Bool.false_and]
   (refine a6 ?_;refine aE ?_;refine aE ?_;refine aP ?_;refine an ?_;refine aj ?_;refine ag ?_;apply ae rfl;(exact ah rfl rfl);apply ae rfl;(exact ah rfl rfl);apply aA rfl rfl rfl rfl rfl;apply ae rfl;(exact a7 rfl rfl rfl);apply ae rfl;(exact ai rfl rfl);refine aq ?_;refine an ?_;refine aK ?_)
   exact aW (.inl rfl) rfl (.tmp rfl) trivial trivial
end Go.Proofs.YtekbhbcgoadciaaGreat
namespace Go.Proofs.YtekbhbcgoadciaaGreat
open Go.RowKit
section
variable {P:Program} {nt:Nat} {S:St} {t:Nat} {ty:TypeId} {ps:String} {af:Array Edge} {gd:Option (Nat×Bool)} {x y:Operand}
theorem jK {xt yt:TypeId} {kk:IntKind} {g:Nat} (ht:Nat.blt t nt=true) (hx:S.op x=some (vv (I6 1))) (hy:S.op y=some (vv (.int kk (g:Int)))):
  bN P nt ⟨some t, .binOp .shl xt x y yt,ty,ps,af,gd⟩ S (S.put t (vv (I6 (IntKind.i64.wrap (1 * 2 ^ (min g 64)))))):=
 bN.pure rfl ht fun _ _ η _ s w hs=>by
  refine ⟨I6 (IntKind.i64.wrap (1 * 2 ^ (min g 64))), ?_,rfl⟩
  have e:Op.shift .shl .i64 1 kk (g:Int)=pure (I6 (IntKind.i64.wrap (1 * 2 ^ (min g 64)))):=by
   unfold Op.shift
   rw [if_neg (by omega)]
   rfl
  simp [execOp,hs.fg hx,hs.fg hy,eqGuard,binOp,e]
end
def uE (L:Nat):Int:=IntKind.i64.wrap (IntKind.i64.wrap (1 * 2 ^ (min (L + 1) 64)) - 1)
set_option maxRecDepth 100000 in
theorem uT (zs:List Int) (L:Nat) (hn:L≤4398046511104):FC Tryz.prog 50 [(1003,cf zs)] [o1 (.sl 1003 0 L)] [] (vv (I6 (L + 1:Nat))) []:=by
 have hw:IntKind.i64.wrap ((L:Int) + 1)=((L + 1:Nat):Int):=IntWalk.i64_in _ (by omega)
 have hw2:IntKind.i64.wrap (L:Int)=(L:Int):=IntWalk.i64_in _ (by omega)
 refine a5 (nt:=6) Tryz.func50 rfl rfl (by simp) fun w0 ω0=> ?_
 (refine aj ?_;refine ag ?_;apply ae rfl;(exact ai rfl rfl);refine aq ?_;refine an ?_;refine aj ?_;refine ag ?_;apply ae rfl;(exact ah rfl rfl);apply ae rfl;(exact br rfl rfl rfl (by as_aux_lemma=>kernel_rfl));apply ae rfl;(first | exact aJ rfl rfl rfl hw | exact aN rfl rfl (by as_aux_lemma=>kernel_rfl) (by as_aux_lemma=>kernel_rfl) hw2);apply ae rfl;(exact ai rfl rfl);refine aq ?_;refine an ?_;refine aK ?_)
 exact aW (.inl rfl) rfl (.tmp rfl) trivial trivial
set_option maxRecDepth 100000 in
theorem sT (zs:List Int) (L:Nat) (hn:L≤4398046511104):FC Tryz.prog 68 [(1003,cf zs)] [o1 (.sl 1003 0 L)] [] (vv (I6 (uE L))) []:=by
 have hR:=uT zs L hn
 have hcv:IntKind.u64.wrap ((L + 1:Nat):Int)=((L + 1:Nat):Int):=by rw [IntKind.wrap_u64];omega
 refine a5 (nt:=8) Tryz.func68 rfl rfl (by simp) fun w0 ω0=> ?_
 (refine aj ?_;refine ag ?_;apply ae rfl;(exact ai rfl rfl);refine aq ?_;refine an ?_;refine aj ?_;refine ag ?_;apply ae rfl;(exact ah rfl rfl);apply ae rfl;(first | (apply ar 50;exact au hR (by as_aux_lemma=>kernel_rfl) rfl rfl ⟨rfl,trivial⟩ ⟨⟨_,rfl, .inl rfl⟩,trivial⟩ rfl rfl) | exact aN rfl rfl (by as_aux_lemma=>kernel_rfl) (by as_aux_lemma=>kernel_rfl) hcv | exact jK (g:=L + 1) rfl rfl rfl | exact bf rfl rfl rfl rfl);apply ae rfl;(first | (apply ar 50;exact au hR (by as_aux_lemma=>kernel_rfl) rfl rfl ⟨rfl,trivial⟩ ⟨⟨_,rfl, .inl rfl⟩,trivial⟩ rfl rfl) | exact aN rfl rfl (by as_aux_lemma=>kernel_rfl) (by as_aux_lemma=>kernel_rfl) hcv | exact jK (g:=L + 1) rfl rfl rfl | exact bf rfl rfl rfl rfl);apply ae rfl;(first | (apply ar 50;exact au hR (by as_aux_lemma=>kernel_rfl) rfl rfl ⟨rfl,trivial⟩ ⟨⟨_,rfl, .inl rfl⟩,trivial⟩ rfl rfl) | exact aN rfl rfl (by as_aux_lemma=>kernel_rfl) (by as_aux_lemma=>kernel_rfl) hcv | exact jK (g:=L + 1) rfl rfl rfl | exact bf rfl rfl rfl rfl);apply ae rfl;(first | (apply ar 50;exact au hR (by as_aux_lemma=>kernel_rfl) rfl rfl ⟨rfl,trivial⟩ ⟨⟨_,rfl, .inl rfl⟩,trivial⟩ rfl rfl) | exact aN rfl rfl (by as_aux_lemma=>kernel_rfl) (by as_aux_lemma=>kernel_rfl) hcv | exact jK (g:=L + 1) rfl rfl rfl | exact bf rfl rfl rfl rfl);apply ae rfl;(exact ai rfl rfl);refine aq ?_;refine an ?_;refine aK ?_)
 exact aW (.inl rfl) rfl (.tmp rfl) trivial trivial
def cB (zs:List Int) (m:Int):Int:=if bz zs=true then (if gm m 0 (bg zs)=true then (if dC zs (bg zs)=true then (if dz zs (bg zs) m.toNat=true then 0 else 5) else 5) else 2) else 1
theorem jG {zs:List Int} {m:Int} (hd:bz zs=false):cB zs m=1:=by unfold cB;rw [hd,if_neg (by simp)]
theorem iI {zs:List Int} {m:Int} (hd:bz zs=true) (hb:gm m 0 (bg zs)=false):cB zs m=2:=by unfold cB;rw [hd,if_pos rfl,hb,if_neg (by simp)]
theorem iJ {zs:List Int} {k:Nat} (hd:bz zs=true) (hb:gm (k:Int) 0 (bg zs)=true) (hf:dC zs (bg zs)=false):cB zs k=5:=by unfold cB;rw [hd,if_pos rfl,hb,if_pos rfl,hf,if_neg (by simp)]
theorem jB {zs:List Int} {k:Nat} (hd:bz zs=true) (hb:gm (k:Int) 0 (bg zs)=true) (hf:dC zs (bg zs)=true):cB zs k=if dz zs (bg zs) k=true then 0 else 5:=by unfold cB;rw [hd,if_pos rfl,hb,if_pos rfl,hf,if_pos rfl,Int.toNat_natCast]
theorem m5 {zs:List Int} (hd:bz zs=true):ld zs (bg zs)=if dC zs (bg zs)=true then 0 else 5:=vU zs hd
set_option maxRecDepth 100000 in
set_option maxHeartbeats 1000000 in
theorem l7 (zs:List Int) (L:Nat) (m:Int) (hL:zs.length=L) (hn:L≤4398046511104):
  FC Tryz.prog 49 [(1003,cf zs)] [o1 (.sl 1003 0 L),vv (I6 m)] [] (vv (I6 (cB zs m))) []:=by
 have hI:=j7 zs L hL hn
 refine a5 (nt:=31) Tryz.func49 rfl rfl (by simp) fun w0 ω0=> ?_
 cases hd:bz zs with
 | false=>
  rw [hd] at hI
  have hW:=sT zs L hn
  have hM:=me zs L (uE L) hL hn
  rw [jG hd]
  (refine aj ?_;refine ag ?_;apply ae rfl;(exact ai rfl rfl);refine aq ?_;refine an ?_;refine aj ?_;refine ag ?_;apply ae rfl;(exact ah rfl rfl);apply ae rfl;(exact ah rfl rfl);apply ae rfl;(first | (apply ar 68;exact au hW (by as_aux_lemma=>kernel_rfl) rfl rfl ⟨rfl,trivial⟩ ⟨⟨_,rfl, .inl rfl⟩,trivial⟩ rfl rfl) | (apply ar 104;exact au hM (by as_aux_lemma=>kernel_rfl) rfl rfl ⟨rfl,rfl,trivial⟩ ⟨⟨_,rfl, .inl rfl⟩,trivial⟩ rfl rfl) | (apply ar 72;exact au hI (by as_aux_lemma=>kernel_rfl) rfl rfl ⟨rfl,trivial⟩ ⟨⟨_,rfl, .inl rfl⟩,trivial⟩ rfl rfl));apply ae rfl;(first | (apply ar 68;exact au hW (by as_aux_lemma=>kernel_rfl) rfl rfl ⟨rfl,trivial⟩ ⟨⟨_,rfl, .inl rfl⟩,trivial⟩ rfl rfl) | (apply ar 104;exact au hM (by as_aux_lemma=>kernel_rfl) rfl rfl ⟨rfl,rfl,trivial⟩ ⟨⟨_,rfl, .inl rfl⟩,trivial⟩ rfl rfl) | (apply ar 72;exact au hI (by as_aux_lemma=>kernel_rfl) rfl rfl ⟨rfl,trivial⟩ ⟨⟨_,rfl, .inl rfl⟩,trivial⟩ rfl rfl));apply ae rfl;(exact ai rfl rfl);refine aq ?_;refine an ?_;refine aj ?_;refine aD ?_;refine aj ?_;refine ag ?_;apply ae rfl;(exact ah rfl rfl);apply ae rfl;(first | (apply ar 68;exact au hW (by as_aux_lemma=>kernel_rfl) rfl rfl ⟨rfl,trivial⟩ ⟨⟨_,rfl, .inl rfl⟩,trivial⟩ rfl rfl) | (apply ar 104;exact au hM (by as_aux_lemma=>kernel_rfl) rfl rfl ⟨rfl,rfl,trivial⟩ ⟨⟨_,rfl, .inl rfl⟩,trivial⟩ rfl rfl) | (apply ar 72;exact au hI (by as_aux_lemma=>kernel_rfl) rfl rfl ⟨rfl,trivial⟩ ⟨⟨_,rfl, .inl rfl⟩,trivial⟩ rfl rfl));apply ae rfl;(exact bK rfl rfl);apply ae rfl;(exact ai rfl rfl);refine aq ?_;refine an ?_)
  refine ax rfl (fun _=> ?_) (fun e=>by cases e)
  (refine aj ?_;refine ag ?_;apply ae rfl;(exact ai rfl rfl);refine aq ?_;refine an ?_;refine aK ?_;refine bh ?_;refine aT ?_)
  exact aW (.inl rfl) rfl (.tmp rfl) trivial trivial
 | true=>
  rw [hd] at hI
  have h4:L≤4:=by have:=bE hd;omega
  have hW:=fF zs L hL h4
  have hM:=me zs L (bg zs) hL hn
  rw [m5 hd] at hM
  have hIn:=xj m 0 (bg zs)
  cases hb:gm m 0 (bg zs) with
  | false=>
   rw [hb] at hIn
   rw [iI hd hb]
   (refine aj ?_;refine ag ?_;apply ae rfl;(exact ai rfl rfl);refine aq ?_;refine an ?_;refine aj ?_;refine ag ?_;apply ae rfl;(exact ah rfl rfl);apply ae rfl;(exact ah rfl rfl);apply ae rfl;(first | (apply ar 68;exact au hW (by as_aux_lemma=>kernel_rfl) rfl rfl ⟨rfl,trivial⟩ ⟨⟨_,rfl, .inl rfl⟩,trivial⟩ rfl rfl) | (apply ar 104;exact au hM (by as_aux_lemma=>kernel_rfl) rfl rfl ⟨rfl,rfl,trivial⟩ ⟨⟨_,rfl, .inl rfl⟩,trivial⟩ rfl rfl) | (apply ar 72;exact au hI (by as_aux_lemma=>kernel_rfl) rfl rfl ⟨rfl,trivial⟩ ⟨⟨_,rfl, .inl rfl⟩,trivial⟩ rfl rfl));apply ae rfl;(first | (apply ar 68;exact au hW (by as_aux_lemma=>kernel_rfl) rfl rfl ⟨rfl,trivial⟩ ⟨⟨_,rfl, .inl rfl⟩,trivial⟩ rfl rfl) | (apply ar 104;exact au hM (by as_aux_lemma=>kernel_rfl) rfl rfl ⟨rfl,rfl,trivial⟩ ⟨⟨_,rfl, .inl rfl⟩,trivial⟩ rfl rfl) | (apply ar 72;exact au hI (by as_aux_lemma=>kernel_rfl) rfl rfl ⟨rfl,trivial⟩ ⟨⟨_,rfl, .inl rfl⟩,trivial⟩ rfl rfl));apply ae rfl;(exact ai rfl rfl);refine aq ?_;refine an ?_;refine aj ?_;refine aD ?_;refine aj ?_;refine ag ?_;apply ae rfl;(exact ah rfl rfl);apply ae rfl;(first | (apply ar 68;exact au hW (by as_aux_lemma=>kernel_rfl) rfl rfl ⟨rfl,trivial⟩ ⟨⟨_,rfl, .inl rfl⟩,trivial⟩ rfl rfl) | (apply ar 104;exact au hM (by as_aux_lemma=>kernel_rfl) rfl rfl ⟨rfl,rfl,trivial⟩ ⟨⟨_,rfl, .inl rfl⟩,trivial⟩ rfl rfl) | (apply ar 72;exact au hI (by as_aux_lemma=>kernel_rfl) rfl rfl ⟨rfl,trivial⟩ ⟨⟨_,rfl, .inl rfl⟩,trivial⟩ rfl rfl));apply ae rfl;(exact bK rfl rfl);apply ae rfl;(exact ai rfl rfl);refine aq ?_;refine an ?_)
   refine ax rfl (fun e=>by cases e) (fun _=> ?_)
   (refine aj ?_;refine ag ?_;apply ae rfl;(exact ah rfl rfl);apply ae rfl;(exact ah rfl rfl);apply ae rfl;(first | (apply ar 68;exact au hW (by as_aux_lemma=>kernel_rfl) rfl rfl ⟨rfl,trivial⟩ ⟨⟨_,rfl, .inl rfl⟩,trivial⟩ rfl rfl) | (apply ar 105;exact au hIn (by as_aux_lemma=>kernel_rfl) rfl rfl ⟨rfl,rfl,rfl,trivial⟩ trivial rfl rfl));apply ae rfl;(first | (apply ar 68;exact au hW (by as_aux_lemma=>kernel_rfl) rfl rfl ⟨rfl,trivial⟩ ⟨⟨_,rfl, .inl rfl⟩,trivial⟩ rfl rfl) | (apply ar 105;exact au hIn (by as_aux_lemma=>kernel_rfl) rfl rfl ⟨rfl,rfl,rfl,trivial⟩ trivial rfl rfl));apply ae rfl;(exact bK rfl rfl);apply ae rfl;(exact ai rfl rfl);refine aq ?_;refine an ?_)
   refine ax rfl (fun _=> ?_) (fun e=>by cases e)
   (refine aj ?_;refine ag ?_;apply ae rfl;(exact ai rfl rfl);refine aq ?_;refine an ?_;refine aK ?_;refine bh ?_;refine aT ?_)
   exact aW (.inl rfl) rfl (.tmp rfl) trivial trivial
  | true=>
   rw [hb] at hIn
   have hlt:=dk (zs:=zs) (by omega)
   have hbb:=dW.1 hb
   obtain ⟨k,rfl⟩:=Int.eq_ofNat_of_zero_le hbb.1
   have hG:=qt zs L (bg zs) k hL h4 (by omega) (by omega)
   (refine aj ?_;refine ag ?_;apply ae rfl;(exact ai rfl rfl);refine aq ?_;refine an ?_;refine aj ?_;refine ag ?_;apply ae rfl;(exact ah rfl rfl);apply ae rfl;(exact ah rfl rfl);apply ae rfl;(first | (apply ar 68;exact au hW (by as_aux_lemma=>kernel_rfl) rfl rfl ⟨rfl,trivial⟩ ⟨⟨_,rfl, .inl rfl⟩,trivial⟩ rfl rfl) | (apply ar 104;exact au hM (by as_aux_lemma=>kernel_rfl) rfl rfl ⟨rfl,rfl,trivial⟩ ⟨⟨_,rfl, .inl rfl⟩,trivial⟩ rfl rfl) | (apply ar 72;exact au hI (by as_aux_lemma=>kernel_rfl) rfl rfl ⟨rfl,trivial⟩ ⟨⟨_,rfl, .inl rfl⟩,trivial⟩ rfl rfl));apply ae rfl;(first | (apply ar 68;exact au hW (by as_aux_lemma=>kernel_rfl) rfl rfl ⟨rfl,trivial⟩ ⟨⟨_,rfl, .inl rfl⟩,trivial⟩ rfl rfl) | (apply ar 104;exact au hM (by as_aux_lemma=>kernel_rfl) rfl rfl ⟨rfl,rfl,trivial⟩ ⟨⟨_,rfl, .inl rfl⟩,trivial⟩ rfl rfl) | (apply ar 72;exact au hI (by as_aux_lemma=>kernel_rfl) rfl rfl ⟨rfl,trivial⟩ ⟨⟨_,rfl, .inl rfl⟩,trivial⟩ rfl rfl));apply ae rfl;(exact ai rfl rfl);refine aq ?_;refine an ?_;refine aj ?_;refine aD ?_;refine aj ?_;refine ag ?_;apply ae rfl;(exact ah rfl rfl);apply ae rfl;(first | (apply ar 68;exact au hW (by as_aux_lemma=>kernel_rfl) rfl rfl ⟨rfl,trivial⟩ ⟨⟨_,rfl, .inl rfl⟩,trivial⟩ rfl rfl) | (apply ar 104;exact au hM (by as_aux_lemma=>kernel_rfl) rfl rfl ⟨rfl,rfl,trivial⟩ ⟨⟨_,rfl, .inl rfl⟩,trivial⟩ rfl rfl) | (apply ar 72;exact au hI (by as_aux_lemma=>kernel_rfl) rfl rfl ⟨rfl,trivial⟩ ⟨⟨_,rfl, .inl rfl⟩,trivial⟩ rfl rfl));apply ae rfl;(exact bK rfl rfl);apply ae rfl;(exact ai rfl rfl);refine aq ?_;refine an ?_)
   refine ax rfl (fun e=>by cases e) (fun _=> ?_)
   (refine aj ?_;refine ag ?_;apply ae rfl;(exact ah rfl rfl);apply ae rfl;(exact ah rfl rfl);apply ae rfl;(first | (apply ar 68;exact au hW (by as_aux_lemma=>kernel_rfl) rfl rfl ⟨rfl,trivial⟩ ⟨⟨_,rfl, .inl rfl⟩,trivial⟩ rfl rfl) | (apply ar 105;exact au hIn (by as_aux_lemma=>kernel_rfl) rfl rfl ⟨rfl,rfl,rfl,trivial⟩ trivial rfl rfl));apply ae rfl;(first | (apply ar 68;exact au hW (by as_aux_lemma=>kernel_rfl) rfl rfl ⟨rfl,trivial⟩ ⟨⟨_,rfl, .inl rfl⟩,trivial⟩ rfl rfl) | (apply ar 105;exact au hIn (by as_aux_lemma=>kernel_rfl) rfl rfl ⟨rfl,rfl,rfl,trivial⟩ trivial rfl rfl));apply ae rfl;(exact bK rfl rfl);apply ae rfl;(exact ai rfl rfl);refine aq ?_;refine an ?_)
   refine ax rfl (fun e=>by cases e) (fun _=> ?_)
   cases hf:dC zs (bg zs) with
   | false=>
    rw [iJ hd hb hf,if_neg (show ¬(false=true) by simp)]
    (refine aj ?_;refine ag ?_;apply ae rfl;(exact ah rfl rfl);apply ae rfl;(exact aB rfl rfl rfl rfl);apply ae rfl;(exact ai rfl rfl);refine aq ?_;refine an ?_)
    refine ax rfl (fun _=> ?_) (fun e=>by cases e)
    (refine aj ?_;refine ag ?_;apply ae rfl;(exact ah rfl rfl);apply ae rfl;(exact ai rfl rfl);refine aq ?_;refine an ?_;refine aK ?_;refine bh ?_;refine aT ?_)
    exact aW (.inl rfl) rfl (.tmp rfl) trivial trivial
   | true=>
    rw [jB hd hb hf,if_pos (show true=true from rfl)]
    (refine aj ?_;refine ag ?_;apply ae rfl;(exact ah rfl rfl);apply ae rfl;(exact aB rfl rfl rfl rfl);apply ae rfl;(exact ai rfl rfl);refine aq ?_;refine an ?_)
    refine ax rfl (fun e=>by cases e) (fun _=> ?_)
    (refine aj ?_;refine ag ?_;apply ae rfl;(exact ah rfl rfl);apply ae rfl;(exact ah rfl rfl);apply ae rfl;(first | (apply ar 68;exact au hW (by as_aux_lemma=>kernel_rfl) rfl rfl ⟨rfl,trivial⟩ ⟨⟨_,rfl, .inl rfl⟩,trivial⟩ rfl rfl) | (apply ar 100;exact au hG (by as_aux_lemma=>kernel_rfl) rfl rfl ⟨rfl,rfl,rfl,trivial⟩ ⟨⟨_,rfl, .inl rfl⟩,trivial⟩ rfl rfl));apply ae rfl;(exact ah rfl rfl);apply ae rfl;(first | (apply ar 68;exact au hW (by as_aux_lemma=>kernel_rfl) rfl rfl ⟨rfl,trivial⟩ ⟨⟨_,rfl, .inl rfl⟩,trivial⟩ rfl rfl) | (apply ar 100;exact au hG (by as_aux_lemma=>kernel_rfl) rfl rfl ⟨rfl,rfl,rfl,trivial⟩ ⟨⟨_,rfl, .inl rfl⟩,trivial⟩ rfl rfl));apply ae rfl;(exact bK rfl rfl);apply ae rfl;(exact ai rfl rfl);refine aq ?_;refine an ?_)
    refine ax rfl (fun h=> ?_) (fun h=> ?_)
    ·have ha:dz zs (bg zs) k=false:=by simpa using h
     rw [ha,if_neg (by simp)]
     (refine aj ?_;refine ag ?_;apply ae rfl;(exact ai rfl rfl);refine aq ?_;refine an ?_;refine aK ?_;refine bh ?_;refine aT ?_)
     exact aW (.inl rfl) rfl (.tmp rfl) trivial trivial
    ·have ha:dz zs (bg zs) k=true:=by simpa using h
     rw [ha,if_pos rfl]
     (refine aG ?_;refine aI ?_;refine an ?_;refine aj ?_;refine ag ?_;apply ae rfl;(exact ai rfl rfl);refine aq ?_;refine an ?_;refine aK ?_)
     exact aW (.inl rfl) rfl (.tmp rfl) trivial trivial
end Go.Proofs.YtekbhbcgoadciaaGreat
namespace Go.Proofs.YtekbhbcgoadciaaGreat
open Go.RowKit
def kH (a b:Nat):Nat:=a ^^^ (a &&& b)
theorem pg (a b j:Nat):(kH a b).testBit j=(a.testBit j && !b.testBit j):=by
 unfold kH
 rw [Nat.testBit_xor,Nat.testBit_and]
 cases a.testBit j<;>cases b.testBit j<;>rfl
theorem rL (a b:Nat):kH a b≤a:=by
 apply Nat.le_of_testBit
 intro j h
 rw [pg] at h
 simp at h
 exact h.1
theorem nC (a b:Nat) (ha:a < 1000000) (hb:b < 1000000):IntKind.i64.wrap ((BitVec.ofInt 64 (a:Int) &&& ~~~ BitVec.ofInt 64 (b:Int)).toNat:Int)=((kH a b:Nat):Int):=by
 have h1:(BitVec.ofInt 64 (a:Int)).toNat=a:=by
  rw [BitVec.ofInt_natCast,BitVec.toNat_ofNat];exact Nat.mod_eq_of_lt (by omega)
 have h2:(BitVec.ofInt 64 (b:Int)).toNat=b:=by
  rw [BitVec.ofInt_natCast,BitVec.toNat_ofNat];exact Nat.mod_eq_of_lt (by omega)
 have h3:BitVec.ofInt 64 (a:Int) &&& ~~~ BitVec.ofInt 64 (b:Int)=BitVec.ofInt 64 (a:Int) ^^^ (BitVec.ofInt 64 (a:Int) &&& BitVec.ofInt 64 (b:Int)):=by
  apply BitVec.eq_of_getLsbD_eq
  intro i hi
  rw [BitVec.getLsbD_and,BitVec.getLsbD_not,BitVec.getLsbD_xor,BitVec.getLsbD_and]
  simp only [hi,decide_true,Bool.true_and]
  cases (BitVec.ofInt 64 (a:Int)).getLsbD i<;>cases (BitVec.ofInt 64 (b:Int)).getLsbD i<;>rfl
 have h4:=rL a b
 rw [h3,BitVec.toNat_xor,BitVec.toNat_and,h1,h2,IntKind.wrap_i64]
 unfold kH at h4 ⊢
 omega
section
variable {P:Program} {nt:Nat} {S:St} {t:Nat} {ty:TypeId} {ps:String} {af:Array Edge} {gd:Option (Nat×Bool)} {x y:Operand}
theorem fL {xt yt:TypeId} {a b:Nat} (ht:Nat.blt t nt=true) (hx:S.op x=some (vv (I6 (a:Int)))) (hy:S.op y=some (vv (I6 (b:Int)))) (ha:a < 1000000) (hb:b < 1000000):
  bN P nt ⟨some t, .binOp .andNot xt x y yt,ty,ps,af,gd⟩ S (S.put t (vv (I6 ((kH a b:Nat):Int)))):=
 bN.pure rfl ht fun _ _ η _ s w hs=>by
  refine ⟨I6 ((kH a b:Nat):Int), ?_,rfl⟩
  have hb':=nC a b ha hb
  have e:Op.intBits .andNot .i64 (a:Int) (b:Int)=pure (I6 ((kH a b:Nat):Int)):=by rw [←hb'];rfl
  simp [execOp,hs.fg hx,hs.fg hy,eqGuard,binOp,e]
theorem pB {xt yt:TypeId} {kk:IntKind} {b g:Nat} (ht:Nat.blt t nt=true) (hx:S.op x=some (vv (I6 (b:Int)))) (hy:S.op y=some (vv (.int kk (g:Int)))) (hb:b≤1) (hg:g≤5):
  bN P nt ⟨some t, .binOp .shl xt x y yt,ty,ps,af,gd⟩ S (S.put t (vv (I6 ((b * 2 ^ g:Nat):Int)))):=
 bN.pure rfl ht fun _ _ η _ s w hs=>by
  refine ⟨I6 ((b * 2 ^ g:Nat):Int), ?_,rfl⟩
  have e:Op.shift .shl .i64 (b:Int) kk (g:Int)=pure (I6 ((b * 2 ^ g:Nat):Int)):=by
   have h2:2 ^ g≤2 ^ 5:=Nat.pow_le_pow_right (by decide) hg
   have h3:b * 2 ^ g≤1 * 2 ^ 5:=Nat.mul_le_mul hb h2
   rw [shift_shl_i64 (x:=(b:Int)) (y:=(g:Int)) (yk:=kk) (Int.natCast_nonneg g) (by omega),Int.toNat_natCast]
   have h4:(b:Int) * 2 ^ g=((b * 2 ^ g:Nat):Int):=by rw [Int.natCast_mul,Int.natCast_pow];rfl
   rw [h4,IntWalk.i64_in _ (by omega)]
  have hw:IntKind.i64.wrap ((b:Int) * 2 ^ g)=(b:Int) * 2 ^ g:=by
   have h2:2 ^ g≤2 ^ 5:=Nat.pow_le_pow_right (by decide) hg
   have h3:b * 2 ^ g≤1 * 2 ^ 5:=Nat.mul_le_mul hb h2
   have h4:(b:Int) * 2 ^ g=((b * 2 ^ g:Nat):Int):=by rw [Int.natCast_mul,Int.natCast_pow];rfl
   rw [h4];exact IntWalk.i64_in _ (by omega)
  simp [execOp,hs.fg hx,hs.fg hy,eqGuard,binOp,e,hw]
end
theorem gn (m g:Nat):dM m g=m.testBit g:=by unfold dM;rw [Nat.testBit_eq_decide_div_mod_eq];rfl
def gq (m g:Nat):Nat:=(m / 2 ^ g) &&& 1
theorem jF (m g:Nat):gq m g≤1:=by unfold gq;rw [Nat.and_one_is_mod];omega
theorem nz (m g k j:Nat):(gq m g * 2 ^ k).testBit j=(m.testBit g && decide (j=k)):=by
 have h:gq m g=if m.testBit g=true then 1 else 0:=by
  unfold gq;rw [Nat.and_one_is_mod,Nat.testBit_eq_decide_div_mod_eq]
  rcases Nat.mod_two_eq_zero_or_one (m / 2 ^ g) with h | h<;>rw [h]<;>rfl
 rw [h]
 cases m.testBit g with
 | true=>
  rw [if_pos rfl,Nat.one_mul,Nat.testBit_two_pow,Bool.true_and]
  by_cases e:j=k
  ·rw [e]
  ·rw [decide_eq_false e,decide_eq_false (fun h=>e h.symm)]
 | false=>rw [if_neg (by simp),Nat.zero_mul,Nat.zero_testBit,Bool.false_and]
def lj (zs:List Int) (i:Nat):Bool:= !(aC zs i == 2)
def dH (zs:List Int) (set:Nat):Nat→Nat
 | 0=>set
 | i + 1=>if lj zs i=true then dH zs set i ||| (gq set i * 2 ^ (i + 1) ||| gq set (i + 1) * 2 ^ i) else dH zs set i
def ud (zs:List Int) (set i:Nat):Bool:=decide (0 < i) && (dM set (i - 1) && lj zs (i - 1))
def wy (zs:List Int) (set i:Nat):Bool:=decide (i + 1 < zs.length + 1) && (dM set (i + 1) && lj zs i)
theorem ny (zs:List Int) (set:Nat):∀i j,(dH zs set i).testBit j=(set.testBit j || (decide (0 < j∧j - 1 < i) && (set.testBit (j - 1) && lj zs (j - 1))) || (decide (j < i) && (set.testBit (j + 1) && lj zs j)))
 | 0,j=>by unfold dH;simp
 | i + 1,j=>by
  unfold dH
  have ih:=ny zs set i j
  by_cases hl:lj zs i=true
  ·rw [if_pos hl,Nat.testBit_or,Nat.testBit_or,nz,nz,ih]
   by_cases e1:j=i + 1
   ·subst e1
    have h1:decide (0 < i + 1∧i + 1 - 1 < i)=false:=by simp
    have h2:decide (0 < i + 1∧i + 1 - 1 < i + 1)=true:=by simp
    have h3:decide (i + 1 < i)=false:=by simp
    have h4:decide (i + 1 < i + 1)=false:=by simp
    have h5:decide (i + 1=i + 1)=true:=by simp
    have h6:decide (i + 1=i)=false:=by simp
    rw [h1,h2,h3,h4,h5,h6,Nat.add_sub_cancel,hl]
    cases set.testBit (i + 1)<;>cases set.testBit i<;>rfl
   ·by_cases e2:j=i
    ·subst e2
     have h1:decide (0 < j∧j - 1 < j)=decide (0 < j∧j - 1 < j + 1):=by apply decide_eq_decide.2;omega
     have h3:decide (j < j)=false:=by simp
     have h4:decide (j < j + 1)=true:=by simp
     have h5:decide (j=j + 1)=false:=by simp
     have h6:decide (j=j)=true:=by simp
     rw [h1,h3,h4,h5,h6,hl]
     cases set.testBit j<;>cases set.testBit (j + 1)<;>cases (decide (0 < j∧j - 1 < j + 1) && (set.testBit (j - 1) && lj zs (j - 1)))<;>rfl
    ·have h1:decide (0 < j∧j - 1 < i)=decide (0 < j∧j - 1 < i + 1):=by apply decide_eq_decide.2;omega
     have h3:decide (j < i)=decide (j < i + 1):=by apply decide_eq_decide.2;omega
     have h5:decide (j=i + 1)=false:=by simpa using e1
     have h6:decide (j=i)=false:=by simpa using e2
     rw [h1,h3,h5,h6]
     simp
  ·rw [if_neg hl,ih]
   have hl:lj zs i=false:=by simpa using hl
   congr 1
   ·congr 1
    by_cases e1:j=i + 1
    ·subst e1;rw [Nat.add_sub_cancel,hl];simp
    ·have h1:decide (0 < j∧j - 1 < i)=decide (0 < j∧j - 1 < i + 1):=by apply decide_eq_decide.2;omega
     rw [h1]
   ·by_cases e2:j=i
    ·subst e2;rw [hl];simp
    ·have h3:decide (j < i)=decide (j < i + 1):=by apply decide_eq_decide.2;omega
     rw [h3]
def mB (zs:List Int) (r set i:Nat):Bool:= !dM (set ||| r) i && !(ud zs set i || wy zs set i)
def eT (zs:List Int) (r set:Nat):Nat→Nat
 | 0=>0
 | i + 1=>if mB zs r set i=true then eT zs r set i ||| 2 ^ i else eT zs r set i
theorem l5 (zs:List Int) (r set:Nat):∀i j,(eT zs r set i).testBit j=(decide (j < i) && mB zs r set j)
 | 0,j=>by unfold eT;simp
 | i + 1,j=>by
  unfold eT
  have ih:=l5 zs r set i j
  by_cases hf:mB zs r set i=true
  ·rw [if_pos hf,Nat.testBit_or,Nat.testBit_two_pow,ih]
   by_cases e:i=j
   ·subst e;rw [hf];simp
   ·have h:decide (j < i)=decide (j < i + 1):=by apply decide_eq_decide.2;omega
    rw [h,decide_eq_false e,Bool.or_false]
  ·rw [if_neg hf,ih]
   by_cases e:i=j
   ·subst e
    have hf:mB zs r set i=false:=by simpa using hf
    rw [hf];simp
   ·have h:decide (j < i)=decide (j < i + 1):=by apply decide_eq_decide.2;omega
    rw [h]
theorem tN (zs:List Int) (r set:Nat):∀i,eT zs r set i < 2 ^ i:=fun i=>by
 apply Nat.lt_pow_two_of_testBit
 intro j hj
 rw [l5,decide_eq_false (by omega)];rfl
def iW (zs:List Int) (r set:Nat):Nat:=eT zs r set (zs.length + 1)
theorem fix_eq (zs:List Int) (r set:Nat):kH (bg zs) (dH zs set zs.length ||| r)=iW zs r set:=by
 apply Nat.eq_of_testBit_eq
 intro j
 unfold iW
 rw [pg,Nat.testBit_or,ny,l5]
 have ha:(bg zs).testBit j=decide (j < zs.length + 1):=by unfold bg;rw [Nat.testBit_two_pow_sub_one]
 rw [ha]
 by_cases hj:j < zs.length + 1
 ·rw [decide_eq_true hj,Bool.true_and,Bool.true_and]
  unfold mB ud wy
  rw [gn,gn,gn,Nat.testBit_or]
  have h1:decide (0 < j∧j - 1 < zs.length)=decide (0 < j):=by apply decide_eq_decide.2;omega
  have h2:decide (j < zs.length)=decide (j + 1 < zs.length + 1):=by apply decide_eq_decide.2;omega
  rw [h1,h2]
  cases set.testBit j<;>cases r.testBit j<;>cases (decide (0 < j) && (set.testBit (j - 1) && lj zs (j - 1)))<;>cases (decide (j + 1 < zs.length + 1) && (set.testBit (j + 1) && lj zs j))<;>rfl
 ·rw [decide_eq_false hj];rfl
theorem nG (zs:List Int) (set:Nat) (hs:set < 1000):∀i,i≤4→dH zs set i < 1024
 | 0,_=>by show set < 1024;omega
 | i + 1,h=>by
  have ih:=nG zs set hs i (by omega)
  unfold dH
  split
  ·have hp:∀g k,k≤5→gq set g * 2 ^ k < 2 ^ 10:=fun g k hk=>by
    have h1:=jF set g
    have h2:2 ^ k≤2 ^ 5:=Nat.pow_le_pow_right (by decide) hk
    have h3:gq set g * 2 ^ k≤1 * 2 ^ 5:=Nat.mul_le_mul h1 h2
    omega
   exact Nat.or_lt_two_pow (n:=10) ih (Nat.or_lt_two_pow (hp _ _ (by omega)) (hp _ _ (by omega)))
  ·exact ih
end Go.Proofs.YtekbhbcgoadciaaGreat
namespace Go.Proofs.YtekbhbcgoadciaaGreat
open Go.RowKit
set_option maxRecDepth 100000 in
set_option maxHeartbeats 1000000 in
theorem vL (zs:List Int) (L r set:Nat) (hL:zs.length=L) (h4:L≤4) (hr:r < 1000) (hs:set < 1000):
  FC Tryz.prog 103 [(1003,cf zs)] [o1 (.sl 1003 0 L),vv (I6 r),vv (I6 set)] [] (vv (I6 (iW zs r set:Nat))) []:=by
 have hA:=gZ zs L hL h4
 have hil:L≤(aH zs).length:=by rw [aO,hL];exact Nat.le_refl _
 have hss:set < 1000000:=by omega
 rw [←fix_eq,hL]
 refine a5 (nt:=44) Tryz.func103 rfl rfl (by simp) fun w0 ω0=> ?_
 (refine aj ?_;refine ag ?_;apply ae rfl;(exact ai rfl rfl);refine aq ?_;refine an ?_;refine aj ?_;refine ag ?_;apply ae rfl;(exact ah rfl rfl);apply ae rfl;(exact ai rfl rfl);refine aq ?_;refine an ?_;refine aj ?_;refine aj ?_;refine ag ?_;apply ae rfl;(exact ah rfl rfl);apply ae rfl;(exact br rfl rfl rfl (by as_aux_lemma=>kernel_rfl));apply ae rfl;(exact ah rfl rfl);refine aq ?_;refine an ?_;refine aD ?_)
 refine bx (fun i:Nat=>St.of [(0,o1 (.sl 1003 0 L)),(1,vv (I6 r)),(2,vv (I6 set)),(7,vv (I6 (dH zs set i:Nat))),(11,o1 (.sl 1003 0 L)),(12,vv (I6 L)),(13,vv (I6 i))] [(1003,cf zs)]) (fun i=>i≤L) (fun i=>L - i) 0 (Nat.zero_le _) (Wk.of ⟨rfl,rfl,rfl,rfl,rfl,rfl,rfl,trivial⟩ ⟨rfl,trivial⟩ trivial) ?_
 rintro i hi
 (refine aj ?_;refine ag ?_;apply ae rfl;(exact aB rfl rfl rfl rfl);refine aq ?_;refine an ?_;refine aj ?_)
 refine bM rfl (fun hlt=> ?_) (fun hlt=> ?_)
 ·have hiL:i < L:=by omega
  have gz:(aH zs)[i]? =some (I6 (aC zs i)):=aR (by omega)
  have hn:=nG zs set hs i (by omega)
  have hi64:i≤64:=by omega
  have hi641:i + 1≤64:=by omega
  have hg0:i≤5:=by omega
  have hg1:i + 1≤5:=by omega
  have hw1:IntKind.i64.wrap ((i:Int) + 1)=((i + 1:Nat):Int):=(IntWalk.i64_in _ (by omega)).trans (by omega)
  have hp:∀g k,k≤5→gq set g * 2 ^ k < 2 ^ 10:=fun g k hk=>by
   have h1:=jF set g
   have h2:2 ^ k≤2 ^ 5:=Nat.pow_le_pow_right (by decide) hk
   have h3:gq set g * 2 ^ k≤1 * 2 ^ 5:=Nat.mul_le_mul h1 h2
   omega
  have hb1:gq set i * 2 ^ (i + 1) < 1000000:=by have:=hp i (i + 1) hg1;omega
  have hb2:gq set (i + 1) * 2 ^ i < 1000000:=by have:=hp (i + 1) i hg0;omega
  have hb3:dH zs set i < 1000000:=by omega
  have hb4:(gq set i * 2 ^ (i + 1) ||| gq set (i + 1) * 2 ^ i) < 1000000:=by
   have:=Nat.or_lt_two_pow (n:=10) (hp i (i + 1) hg1) (hp (i + 1) i hg0);omega
  (refine aG ?_;refine an ?_;refine aj ?_;refine aD ?_;refine aj ?_;refine ag ?_;apply ae rfl;(exact ah rfl rfl);apply ae rfl;(first | exact aS (j:=i) rfl rfl rfl rfl rfl (by as_aux_lemma=>kernel_rfl) rfl hiL hil | exact aV rfl (by as_aux_lemma=>kernel_rfl) rfl rfl rfl gz);apply ae rfl;(first | exact aS (j:=i) rfl rfl rfl rfl rfl (by as_aux_lemma=>kernel_rfl) rfl hiL hil | exact aV rfl (by as_aux_lemma=>kernel_rfl) rfl rfl rfl gz);apply ae rfl;(exact ai rfl rfl);apply ae rfl;(exact ai rfl rfl);refine aq ?_;refine an ?_;refine aj ?_;refine ag ?_;apply ae rfl;(exact ah rfl rfl);apply ae rfl;(exact aB rfl rfl rfl rfl);refine aq ?_;refine an ?_)
  refine ax rfl (fun h=> ?_) (fun h=> ?_)
  ·have hv:dH zs set (i + 1)=dH zs set i ||| (gq set i * 2 ^ (i + 1) ||| gq set (i + 1) * 2 ^ i):=by rw [dH,if_pos (show lj zs i=true from h)]
   (skip)
   apply dK 17 [] [[], [], [], [1,2], [1,2,3], [], [5], [1,2,3,4,5,6], [], [], [9], [8,9,10], [8,9,10,11], [], [8,9,10,11,12,13], [1,2,3,4,5,6,7,8,9,10,11,12,13,14], [0,1,2,3,4,5,6,7,8,9,10,11,12,13,14,15], [0,1,2,3,4,5,6,7,8,9,10,11,12,13,14,15,16]] [20,21,22,23,24,25,26,27,28,29,30,31,32,33,34,35,36] [] (by kernel_rfl) (by kernel_rfl)
   ·(apply aF rfl;(focus (intro S1 hS;exact ah rfl (hS.op rfl))))
    (apply aF rfl;(focus (intro S1 hS;exact ah rfl (hS.op rfl))))
    (apply aF rfl;(focus (intro S1 hS;exact ah rfl (hS.op rfl))))
    (apply aF rfl;(focus (intro S1 hS;exact bn (g:=i) rfl (hS.op rfl) (hS.op rfl) hi64)))
    (apply aF rfl;(focus (intro S1 hS;exact bB rfl (hS.op rfl) hss)))
    (apply aF rfl;(focus (intro S1 hS;exact ah rfl (hS.op rfl))))
    (apply aF rfl;(focus (intro S1 hS;exact aJ rfl (hS.op rfl) (hS.op rfl) hw1)))
    (apply aF rfl;(focus (intro S1 hS;exact pB (b:=gq set i) (g:=i + 1) rfl (hS.op rfl) (hS.op rfl) (jF _ _) hg1)))
    (apply aF rfl;(focus (intro S1 hS;exact ah rfl (hS.op rfl))))
    (apply aF rfl;(focus (intro S1 hS;exact ah rfl (hS.op rfl))))
    (apply aF rfl;(focus (intro S1 hS;exact aJ rfl (hS.op rfl) (hS.op rfl) hw1)))
    (apply aF rfl;(focus (intro S1 hS;exact bn (g:=i + 1) rfl (hS.op rfl) (hS.op rfl) hi641)))
    (apply aF rfl;(focus (intro S1 hS;exact bB rfl (hS.op rfl) hss)))
    (apply aF rfl;(focus (intro S1 hS;exact ah rfl (hS.op rfl))))
    (apply aF rfl;(focus (intro S1 hS;exact pB (b:=gq set (i + 1)) (g:=i) rfl (hS.op rfl) (hS.op rfl) (jF _ _) hg0)))
    (apply aF rfl;(focus (intro S1 hS;exact cY rfl (hS.op rfl) (hS.op rfl) hb1 hb2)))
    (apply aF rfl;(focus (intro S1 hS;exact cY rfl (hS.op rfl) (hS.op rfl) hb3 hb4)))
    exact eR.nil
   ·rfl
   refine cK (St.of [(0,o1 (.sl 1003 0 L)),(1,vv (I6 r)),(2,vv (I6 set)),(7,vv (I6 (dH zs set (i + 1):Nat))),(11,o1 (.sl 1003 0 L)),(12,vv (I6 L)),(13,vv (I6 i))] [(1003,cf zs)]) ?_ ?_
   ·((apply aZ 17 rfl (by as_aux_lemma=>kernel_rfl) rfl rfl;(exact ai rfl rfl));(refine bF (by as_aux_lemma=>kernel_rfl) ?_;exact aU (Wk.of ⟨rfl,rfl,rfl,congrArg (fun z:Nat=>some (vv (I6 (z:Int)))) hv.symm,rfl,rfl,rfl,trivial⟩ ⟨rfl,trivial⟩ trivial)))
   (refine aI ?_;refine an ?_;refine ag ?_;apply ae rfl;(exact aJ rfl rfl rfl (by first | exact IntWalk.i64_in _ (by omega) | rfl));apply ae rfl;(exact ah rfl rfl);refine aq ?_)
   exact aX (i + 1) (by omega) (by omega) (Wk.of ⟨rfl,rfl,rfl,rfl,rfl,rfl,rfl,trivial⟩ ⟨rfl,trivial⟩ trivial)
  ·have hv:dH zs set (i + 1)=dH zs set i:=by
    have h:lj zs i=false:=h
    rw [dH,if_neg (by rw [h];simp)]
   (refine aG ?_;refine aI ?_;refine an ?_;refine ag ?_;apply ae rfl;(exact aJ rfl rfl rfl (by first | exact IntWalk.i64_in _ (by omega) | rfl));apply ae rfl;(exact ah rfl rfl);refine aq ?_)
   exact aX (i + 1) (by omega) (by omega) (Wk.of ⟨rfl,rfl,rfl,congrArg (fun z:Nat=>some (vv (I6 (z:Int)))) hv.symm,rfl,rfl,rfl,trivial⟩ ⟨rfl,trivial⟩ trivial)
 ·obtain rfl:i=L:=by omega
  have hn:=nG zs set hs i h4
  have hb1:dH zs set i < 1000000:=by omega
  have hb2:r < 1000000:=by omega
  have hb3:bg zs < 1000000:=by have:=dk (zs:=zs) (by omega);omega
  have hb4:(dH zs set i ||| r) < 1000000:=by
   have:=Nat.or_lt_two_pow (n:=10) (x:=dH zs set i) (y:=r) (by omega) (by omega);omega
  (refine a6 ?_;refine aE ?_;refine aE ?_;refine aP ?_;refine an ?_;refine aj ?_;refine ag ?_;apply ae rfl;(exact ah rfl rfl);apply ae rfl;(first | (apply ar 57;exact au hA (by as_aux_lemma=>kernel_rfl) rfl rfl ⟨rfl,trivial⟩ ⟨⟨_,rfl, .inl rfl⟩,trivial⟩ rfl rfl) | exact cY rfl rfl rfl hb1 hb2 | exact fL rfl rfl rfl hb3 hb4);apply ae rfl;(exact ah rfl rfl);apply ae rfl;(exact ah rfl rfl);apply ae rfl;(first | (apply ar 57;exact au hA (by as_aux_lemma=>kernel_rfl) rfl rfl ⟨rfl,trivial⟩ ⟨⟨_,rfl, .inl rfl⟩,trivial⟩ rfl rfl) | exact cY rfl rfl rfl hb1 hb2 | exact fL rfl rfl rfl hb3 hb4);apply ae rfl;(first | (apply ar 57;exact au hA (by as_aux_lemma=>kernel_rfl) rfl rfl ⟨rfl,trivial⟩ ⟨⟨_,rfl, .inl rfl⟩,trivial⟩ rfl rfl) | exact cY rfl rfl rfl hb1 hb2 | exact fL rfl rfl rfl hb3 hb4);apply ae rfl;(exact ai rfl rfl);refine aq ?_;refine an ?_;refine aK ?_)
  exact aW (.inl rfl) rfl (.tmp rfl) trivial trivial
def mb (zs:List Int) (m s:Int):Int:=if (bz zs && (gm m 0 (bg zs) && !gm s 0 (bg zs)))=true then 2 else cB zs m
set_option maxRecDepth 100000 in
set_option maxHeartbeats 1000000 in
theorem rK (zs:List Int) (L:Nat) (m s:Int) (hL:zs.length=L) (hn:L≤4398046511104):
  FC Tryz.prog 102 [(1003,cf zs)] [o1 (.sl 1003 0 L),vv (I6 m),vv (I6 s)] [] (vv (I6 (mb zs m s))) []:=by
 have hI:=jE zs L hL hn
 unfold mb
 refine a5 (nt:=41) Tryz.func102 rfl rfl (by simp) fun w0 ω0=> ?_
 cases hd:bz zs with
 | false=>
  rw [hd] at hI
  rw [Bool.false_and,if_neg (by simp),jG hd]
  (refine aj ?_;refine ag ?_;apply ae rfl;(exact ai rfl rfl);refine aq ?_;refine an ?_;refine aj ?_;refine aD ?_;refine aj ?_;refine ag ?_;apply ae rfl;(exact ah rfl rfl);apply ae rfl;(apply ar 54;exact au hI (by as_aux_lemma=>kernel_rfl) rfl rfl ⟨rfl,trivial⟩ ⟨⟨_,rfl, .inl rfl⟩,trivial⟩ rfl rfl);apply ae rfl;(exact bK rfl rfl);apply ae rfl;(exact ai rfl rfl);refine aq ?_;refine an ?_)
  refine ax rfl (fun _=> ?_) (fun e=>by cases e)
  (refine aj ?_;refine ag ?_;apply ae rfl;(exact ai rfl rfl);refine aq ?_;refine an ?_;refine aK ?_;refine bh ?_;refine aT ?_)
  exact aW (.inl rfl) rfl (.tmp rfl) trivial trivial
 | true=>
  rw [hd] at hI
  have h4:L≤4:=by have:=bE hd;omega
  have hM:=gC zs L m hL h4
  have hS:=gC zs L s hL h4
  have hA:=gZ zs L hL h4
  rw [Bool.true_and]
  cases hb:gm m 0 (bg zs) with
  | false=>
   rw [hb] at hM
   rw [Bool.false_and,if_neg (by simp),iI hd hb]
   (refine aj ?_;refine ag ?_;apply ae rfl;(exact ai rfl rfl);refine aq ?_;refine an ?_;refine aj ?_;refine aD ?_;refine aj ?_;refine ag ?_;apply ae rfl;(exact ah rfl rfl);apply ae rfl;(apply ar 54;exact au hI (by as_aux_lemma=>kernel_rfl) rfl rfl ⟨rfl,trivial⟩ ⟨⟨_,rfl, .inl rfl⟩,trivial⟩ rfl rfl);apply ae rfl;(exact bK rfl rfl);apply ae rfl;(exact ai rfl rfl);refine aq ?_;refine an ?_)
   refine ax rfl (fun e=>by cases e) (fun _=> ?_)
   (refine aj ?_;refine ag ?_;apply ae rfl;(exact ah rfl rfl);apply ae rfl;(exact ah rfl rfl);apply ae rfl;(apply ar 55;exact au hM (by as_aux_lemma=>kernel_rfl) rfl rfl ⟨rfl,rfl,trivial⟩ ⟨⟨_,rfl, .inl rfl⟩,trivial⟩ rfl rfl);apply ae rfl;(exact bK rfl rfl);apply ae rfl;(exact ah rfl rfl);apply aA rfl rfl rfl rfl rfl;apply aA rfl rfl rfl rfl rfl;apply aA rfl rfl rfl rfl rfl;apply aA rfl rfl rfl rfl rfl;apply ae rfl;(exact aY rfl rfl rfl);apply ae rfl;(exact ai rfl rfl);refine aq ?_;refine an ?_)
   refine ax rfl (fun _=> ?_) (fun e=>by cases e)
   (refine aj ?_;refine ag ?_;apply ae rfl;(exact ai rfl rfl);refine aq ?_;refine an ?_;refine aK ?_;refine bh ?_;refine aT ?_)
   exact aW (.inl rfl) rfl (.tmp rfl) trivial trivial
  | true=>
   rw [hb] at hM
   rw [Bool.true_and]
   have hlt:=dk (zs:=zs) (by omega)
   have hbb:=dW.1 hb
   obtain ⟨k,rfl⟩:=Int.eq_ofNat_of_zero_le hbb.1
   cases hs:gm s 0 (bg zs) with
   | false=>
    rw [hs] at hS
    rw [if_pos (by rfl)]
    (refine aj ?_;refine ag ?_;apply ae rfl;(exact ai rfl rfl);refine aq ?_;refine an ?_;refine aj ?_;refine aD ?_;refine aj ?_;refine ag ?_;apply ae rfl;(exact ah rfl rfl);apply ae rfl;(apply ar 54;exact au hI (by as_aux_lemma=>kernel_rfl) rfl rfl ⟨rfl,trivial⟩ ⟨⟨_,rfl, .inl rfl⟩,trivial⟩ rfl rfl);apply ae rfl;(exact bK rfl rfl);apply ae rfl;(exact ai rfl rfl);refine aq ?_;refine an ?_)
    refine ax rfl (fun e=>by cases e) (fun _=> ?_)
    (refine aj ?_;refine ag ?_;apply ae rfl;(exact ah rfl rfl);apply ae rfl;(exact ah rfl rfl);apply ae rfl;(first | (apply ar 55;exact au hM (by as_aux_lemma=>kernel_rfl) rfl rfl ⟨rfl,rfl,trivial⟩ ⟨⟨_,rfl, .inl rfl⟩,trivial⟩ rfl rfl) | (apply ar 55;exact au hS (by as_aux_lemma=>kernel_rfl) rfl rfl ⟨rfl,rfl,trivial⟩ ⟨⟨_,rfl, .inl rfl⟩,trivial⟩ rfl rfl));apply ae rfl;(exact bK rfl rfl);apply ae rfl;(exact ah rfl rfl);apply aw rfl rfl rfl;(exact ah rfl rfl);apply aw rfl rfl rfl;(exact ah rfl rfl);apply aw rfl rfl rfl;(first | (apply ar 55;exact au hM (by as_aux_lemma=>kernel_rfl) rfl rfl ⟨rfl,rfl,trivial⟩ ⟨⟨_,rfl, .inl rfl⟩,trivial⟩ rfl rfl) | (apply ar 55;exact au hS (by as_aux_lemma=>kernel_rfl) rfl rfl ⟨rfl,rfl,trivial⟩ ⟨⟨_,rfl, .inl rfl⟩,trivial⟩ rfl rfl));apply aw rfl rfl rfl;(exact bK rfl rfl);apply ae rfl;(exact a7 rfl rfl rfl);apply ae rfl;(exact ai rfl rfl);refine aq ?_;refine an ?_)
    refine ax rfl (fun _=> ?_) (fun e=>by cases e)
    (refine aj ?_;refine ag ?_;apply ae rfl;(exact ai rfl rfl);refine aq ?_;refine an ?_;refine aK ?_;refine bh ?_;refine aT ?_)
    exact aW (.inl rfl) rfl (.tmp rfl) trivial trivial
   | true=>
    rw [hs] at hS
    rw [if_neg (by simp)]
    (refine aj ?_;refine ag ?_;apply ae rfl;(exact ai rfl rfl);refine aq ?_;refine an ?_;refine aj ?_;refine aD ?_;refine aj ?_;refine ag ?_;apply ae rfl;(exact ah rfl rfl);apply ae rfl;(apply ar 54;exact au hI (by as_aux_lemma=>kernel_rfl) rfl rfl ⟨rfl,trivial⟩ ⟨⟨_,rfl, .inl rfl⟩,trivial⟩ rfl rfl);apply ae rfl;(exact bK rfl rfl);apply ae rfl;(exact ai rfl rfl);refine aq ?_;refine an ?_)
    refine ax rfl (fun e=>by cases e) (fun _=> ?_)
    (refine aj ?_;refine ag ?_;apply ae rfl;(exact ah rfl rfl);apply ae rfl;(exact ah rfl rfl);apply ae rfl;(first | (apply ar 55;exact au hM (by as_aux_lemma=>kernel_rfl) rfl rfl ⟨rfl,rfl,trivial⟩ ⟨⟨_,rfl, .inl rfl⟩,trivial⟩ rfl rfl) | (apply ar 55;exact au hS (by as_aux_lemma=>kernel_rfl) rfl rfl ⟨rfl,rfl,trivial⟩ ⟨⟨_,rfl, .inl rfl⟩,trivial⟩ rfl rfl));apply ae rfl;(exact bK rfl rfl);apply ae rfl;(exact ah rfl rfl);apply aw rfl rfl rfl;(exact ah rfl rfl);apply aw rfl rfl rfl;(exact ah rfl rfl);apply aw rfl rfl rfl;(first | (apply ar 55;exact au hM (by as_aux_lemma=>kernel_rfl) rfl rfl ⟨rfl,rfl,trivial⟩ ⟨⟨_,rfl, .inl rfl⟩,trivial⟩ rfl rfl) | (apply ar 55;exact au hS (by as_aux_lemma=>kernel_rfl) rfl rfl ⟨rfl,rfl,trivial⟩ ⟨⟨_,rfl, .inl rfl⟩,trivial⟩ rfl rfl));apply aw rfl rfl rfl;(exact bK rfl rfl);apply ae rfl;(exact a7 rfl rfl rfl);apply ae rfl;(exact ai rfl rfl);refine aq ?_;refine an ?_)
    refine ax rfl (fun e=>by cases e) (fun _=> ?_)
    cases hf:dC zs (bg zs) with
    | false=>
     have hO:=pM zs L (bg zs) hL hd (by omega) hf
     rw [iJ hd hb hf]
     (refine aG ?_;refine aI ?_;refine an ?_;refine aj ?_;refine aj ?_;refine ag ?_;apply ae rfl;(exact ah rfl rfl);apply ae rfl;(exact ah rfl rfl);apply ae rfl;(first | (apply ar 57;exact au hA (by as_aux_lemma=>kernel_rfl) rfl rfl ⟨rfl,trivial⟩ ⟨⟨_,rfl, .inl rfl⟩,trivial⟩ rfl rfl) | (apply ar 56;exact au hO (by as_aux_lemma=>kernel_rfl) rfl rfl ⟨rfl,rfl,trivial⟩ ⟨⟨_,rfl, .inl rfl⟩,trivial⟩ rfl rfl));apply ae rfl;(first | (apply ar 57;exact au hA (by as_aux_lemma=>kernel_rfl) rfl rfl ⟨rfl,trivial⟩ ⟨⟨_,rfl, .inl rfl⟩,trivial⟩ rfl rfl) | (apply ar 56;exact au hO (by as_aux_lemma=>kernel_rfl) rfl rfl ⟨rfl,rfl,trivial⟩ ⟨⟨_,rfl, .inl rfl⟩,trivial⟩ rfl rfl));apply ae rfl;(exact ah rfl rfl);apply ae rfl;(exact bL rfl rfl rfl);apply ae rfl;(exact bL rfl rfl rfl);apply ae rfl;(exact ai rfl rfl);apply ae rfl;(exact ai rfl rfl);refine aq ?_;refine an ?_;refine aj ?_;refine ag ?_;apply ae rfl;(exact ah rfl rfl);apply ae rfl;(exact bK rfl rfl);apply ae rfl;(exact ah rfl rfl);apply aA rfl rfl rfl rfl rfl;apply aA rfl rfl rfl rfl rfl;apply aA rfl rfl rfl rfl rfl;apply aA rfl rfl rfl rfl rfl;apply aA rfl rfl rfl rfl rfl;apply aA rfl rfl rfl rfl rfl;apply ae rfl;(exact aY rfl rfl rfl);refine aq ?_;refine an ?_)
     refine ax rfl (fun _=> ?_) (fun e=>by cases e)
     (refine aj ?_;refine ag ?_;apply ae rfl;(exact ai rfl rfl);refine aq ?_;refine an ?_;refine aK ?_;refine aT ?_)
     exact aW (.inl rfl) rfl (.tmp rfl) trivial trivial
    | true=>
     have hO:=fk zs L (bg zs) hL hd (by omega) hf
     have hG:=nH zs L k (bg zs) hL h4 (by omega) (by omega)
     rw [jB hd hb hf]
     (refine aG ?_;refine aI ?_;refine an ?_;refine aj ?_;refine aj ?_;refine ag ?_;apply ae rfl;(exact ah rfl rfl);apply ae rfl;(exact ah rfl rfl);apply ae rfl;(first | (apply ar 57;exact au hA (by as_aux_lemma=>kernel_rfl) rfl rfl ⟨rfl,trivial⟩ ⟨⟨_,rfl, .inl rfl⟩,trivial⟩ rfl rfl) | (apply ar 56;exact au hO (by as_aux_lemma=>kernel_rfl) rfl rfl ⟨rfl,rfl,trivial⟩ ⟨⟨_,rfl, .inl rfl⟩,trivial⟩ rfl rfl) | (apply ar 58;exact au hG (by as_aux_lemma=>kernel_rfl) rfl rfl ⟨rfl,rfl,rfl,trivial⟩ ⟨⟨_,rfl, .inl rfl⟩,trivial⟩ rfl rfl));apply ae rfl;(first | (apply ar 57;exact au hA (by as_aux_lemma=>kernel_rfl) rfl rfl ⟨rfl,trivial⟩ ⟨⟨_,rfl, .inl rfl⟩,trivial⟩ rfl rfl) | (apply ar 56;exact au hO (by as_aux_lemma=>kernel_rfl) rfl rfl ⟨rfl,rfl,trivial⟩ ⟨⟨_,rfl, .inl rfl⟩,trivial⟩ rfl rfl) | (apply ar 58;exact au hG (by as_aux_lemma=>kernel_rfl) rfl rfl ⟨rfl,rfl,rfl,trivial⟩ ⟨⟨_,rfl, .inl rfl⟩,trivial⟩ rfl rfl));apply ae rfl;(exact ah rfl rfl);apply ae rfl;(exact bL rfl rfl rfl);apply ae rfl;(exact bL rfl rfl rfl);apply ae rfl;(exact ai rfl rfl);apply ae rfl;(exact ai rfl rfl);refine aq ?_;refine an ?_;refine aj ?_;refine ag ?_;apply ae rfl;(exact ah rfl rfl);apply ae rfl;(exact bK rfl rfl);apply ae rfl;(exact ah rfl rfl);apply aw rfl rfl rfl;(exact ah rfl rfl);apply aw rfl rfl rfl;(exact ah rfl rfl);apply aw rfl rfl rfl;(exact ah rfl rfl);apply aw rfl rfl rfl;(first | (apply ar 57;exact au hA (by as_aux_lemma=>kernel_rfl) rfl rfl ⟨rfl,trivial⟩ ⟨⟨_,rfl, .inl rfl⟩,trivial⟩ rfl rfl) | (apply ar 56;exact au hO (by as_aux_lemma=>kernel_rfl) rfl rfl ⟨rfl,rfl,trivial⟩ ⟨⟨_,rfl, .inl rfl⟩,trivial⟩ rfl rfl) | (apply ar 58;exact au hG (by as_aux_lemma=>kernel_rfl) rfl rfl ⟨rfl,rfl,rfl,trivial⟩ ⟨⟨_,rfl, .inl rfl⟩,trivial⟩ rfl rfl));apply aw rfl rfl rfl;(first | (apply ar 57;exact au hA (by as_aux_lemma=>kernel_rfl) rfl rfl ⟨rfl,trivial⟩ ⟨⟨_,rfl, .inl rfl⟩,trivial⟩ rfl rfl) | (apply ar 56;exact au hO (by as_aux_lemma=>kernel_rfl) rfl rfl ⟨rfl,rfl,trivial⟩ ⟨⟨_,rfl, .inl rfl⟩,trivial⟩ rfl rfl) | (apply ar 58;exact au hG (by as_aux_lemma=>kernel_rfl) rfl rfl ⟨rfl,rfl,rfl,trivial⟩ ⟨⟨_,rfl, .inl rfl⟩,trivial⟩ rfl rfl));apply aw rfl rfl rfl;(exact bK rfl rfl);apply ae rfl;(exact a7 rfl rfl rfl);refine aq ?_;refine an ?_)
     refine ax rfl (fun h=> ?_) (fun h=> ?_)
     ·have ha:dz zs (bg zs) k=false:=by simpa using h
      rw [ha,if_neg (by simp)]
      (refine aj ?_;refine ag ?_;apply ae rfl;(exact ai rfl rfl);refine aq ?_;refine an ?_;refine aK ?_;refine aT ?_)
      exact aW (.inl rfl) rfl (.tmp rfl) trivial trivial
     ·have ha:dz zs (bg zs) k=true:=by simpa using h
      rw [ha,if_pos rfl]
      (refine aG ?_;refine an ?_;refine aj ?_;refine ag ?_;apply ae rfl;(exact ai rfl rfl);refine aq ?_;refine an ?_;refine aK ?_)
      exact aW (.inl rfl) rfl (.tmp rfl) trivial trivial
theorem ky {zs:List Int} {m s:Int} (h:mb zs m s=0):bz zs=true∧dC zs (bg zs)=true∧∃k l:Nat,m=k∧s=l∧k≤bg zs∧l≤bg zs:=by
 unfold mb at h
 split at h
 ·cases h
 ·rename_i hc
  cases hd:bz zs with
  | false=>rw [jG hd] at h;cases h
  | true=>
   cases hb:gm m 0 (bg zs) with
   | false=>rw [iI hd hb] at h;cases h
   | true=>
    have hbb:=dW.1 hb
    obtain ⟨k,rfl⟩:=Int.eq_ofNat_of_zero_le hbb.1
    cases hf:dC zs (bg zs) with
    | false=>rw [iJ hd hb hf] at h;cases h
    | true=>
     have hs:gm s 0 (bg zs)=true:=by
      cases hs:gm s 0 (bg zs) with
      | true=>rfl
      | false=>rw [hd,hb,hs] at hc;exact absurd rfl hc
     have hss:=dW.1 hs
     obtain ⟨l,rfl⟩:=Int.eq_ofNat_of_zero_le hss.1
     exact ⟨rfl,rfl,k,l,rfl,rfl,by omega,by omega⟩
end Go.Proofs.YtekbhbcgoadciaaGreat
