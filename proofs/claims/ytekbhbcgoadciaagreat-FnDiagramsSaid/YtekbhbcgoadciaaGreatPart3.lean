/- Coset enumeration: cosets numbered anew, and the table. No program in sight. -/
import Derived.Test.YtekbhbcgoadciaaGreatPart2
import Derived.Test.YtekbhbcgoadciaaGreatProg
import Derived.Test.YtekbhbcgoadciaaGreatPart1
import Derived.Laws.CopyOwn
import Derived.Deep.RegionLaw
import Derived.RegionTactic
import Derived.Deep.RegionHeld3
set_option maxRecDepth 100000
set_option maxHeartbeats 6400000
namespace Go.Proofs.YtekbhbcgoadciaaGreat
abbrev je:=List Int×List Int
def visit (s:je) (d:Nat):je:=if aC s.2 d < 0 then (s.1 ++ [(d:Int)],s.2.set d (s.1.length:Int)) else s
def cY (im:List (List Int)) (less:List Int) (i:Nat) (s:je) (g:Nat):je:=visit s (image im less (aC s.1 i).toNat g).toNat
def iS (ng:Nat) (im:List (List Int)) (less:List Int) (i:Nat) (s:je):je:=(List.range ng).foldl (cY im less i) s
def da (ng:Nat) (im:List (List Int)) (less:List Int):Nat→Nat→je→je
 | 0,_,s=>s
 | f + 1,i,s=>if i < s.1.length then da ng im less f (i + 1) (iS ng im less i s) else s
def dE (n:Nat):je:=([0],(List.replicate n (-1)).set 0 0)
def bO (ng:Nat) (im:List (List Int)) (less:List Int):je:=da ng im less (less.length + 1) 0 (dE less.length)
def cj (ng:Nat) (im:List (List Int)) (less:List Int):List (List Int):=
 (List.range ng).map fun g=>(bO ng im less).1.map fun c=>aC (bO ng im less).2 (image im less c.toNat g).toNat
def wG (l:List Int):Nat:=(l.filter fun z=>decide (0≤z)).length
theorem IG (l:List Int):wG l≤l.length:=List.length_filter_le _ _
theorem vg:∀(l:List Int) (d:Nat) (z:Int),d < l.length→aC l d < 0→0≤z→wG (l.set d z)=wG l + 1
 | [],d,z,h,_,_=>by simp at h
 | x :: r,0,z,_,h,hz=>by
  have h:x < 0:=by simpa [aC] using h
  simp [wG,show ¬0≤x by omega,hz]
 | x :: r,d + 1,z,hd,h,hz=>by
  have ih:=vg r d z (by simpa using hd) (by simpa [aC] using h) hz
  unfold wG at ih ⊢
  simp only [List.set_cons_succ,List.filter_cons]
  split
  ·simp only [List.length_cons];omega
  ·exact ih
structure Full (ng:Nat) (im:List (List Int)) (less:List Int):Prop where
 wf:WF ng im less
 pos:0 < less.length
 full:∀c,c < less.length→aC less c=(c:Int)→∀g,g < ng→0≤bZ im c g
theorem Full.zero {ng:Nat} {im:List (List Int)} {less:List Int} (h:Full ng im less):aC less 0=((0:Nat):Int):=by
 have:=h.wf.down 0 h.pos;omega
theorem Full.image {ng:Nat} {im:List (List Int)} {less:List Int} (h:Full ng im less) {c g:Nat} (hc:c < less.length) (hl:aC less c=(c:Int)) (hg:g < ng):
  ∃d:Nat,image im less c g=(d:Int)∧d < less.length∧aC less d=(d:Int):=by
 have h1:=h.full c hc hl g hg
 have h2:=h.wf.bZ c g (by rw [h.wf.len];exact hc) hg
 refine ⟨root less (bZ im c g).toNat,by unfold Proofs.YtekbhbcgoadciaaGreat.image;rw [if_neg ae],de h.wf.down ae, ?_⟩
 exact (eI h.wf.down _ ae).1
structure pn (n:Nat) (less:List Int) (s:je):Prop where
 len:s.2.length=n
 wG:wG s.2=s.1.length
 live:∀k,k < s.1.length→∃d:Nat,aC s.1 k=(d:Int)∧d < n∧aC less d=(d:Int)∧aC s.2 d=(k:Int)
 num:∀d,d < n→0≤aC s.2 d→aC s.2 d < s.1.length
theorem pn.le {n:Nat} {less:List Int} {s:je} (h:pn n less s):s.1.length≤n:=by
 have:=IG s.2;rw [h.wG,h.len] at this;exact this
theorem DL {n:Nat} {less:List Int} {s:je} {d:Nat} (h:pn n less s) (hd:d < n) (hl:aC less d=(d:Int)):pn n less (visit s d):=by
 unfold visit
 split
 ·rename_i hn
  refine ⟨by rw [List.length_set];exact h.len, ?_,fun k hk=> ?_,fun e he h0=> ?_⟩
  ·dsimp only;rw [vg _ _ _ (by rw [h.len];exact hd) hn ae,h.wG];simp
  ·dsimp only at hk ⊢
   by_cases e:k < s.1.length
   ·obtain ⟨d',h1,h2,h3,h4⟩:=h.live k e
    refine ⟨d',by rw [cC e];exact h1,h2,h3, ?_⟩
    rw [cK]
    split
    ·rename_i e2;rw [e2.1] at hn;omega
    ·exact h4
   ·obtain rfl:k=s.1.length:=by simp at hk;omega
    exact ⟨d,dv,hd,hl,by rw [cK,if_pos ⟨rfl,by rw [h.len];exact hd⟩]⟩
  ·dsimp only at h0 ⊢
   rw [cK] at h0 ⊢
   rw [List.length_append]
   split
   ·simp;omega
   ·rename_i hne
    rw [if_neg hne] at h0
    have:=h.num e he h0
    simp;omega
 ·exact h
structure eS (s s':je):Prop where
 pre:∀k,k < s.1.length→aC s'.1 k=aC s.1 k
 len:s.1.length≤s'.1.length
 num:∀d,0≤aC s.2 d→aC s'.2 d=aC s.2 d
theorem eS.refl (s:je):eS s s:=⟨fun _ _=>rfl,Nat.le_refl _,fun _ _=>rfl⟩
theorem eS.trans {a b c:je} (h:eS a b) (k:eS b c):eS a c:=
 ⟨fun i hi=>(k.pre i (Nat.lt_of_lt_of_le hi h.len)).trans (h.pre i hi),Nat.le_trans h.len k.len,fun d hd=>(k.num d (by rw [h.num d hd];exact hd)).trans (h.num d hd)⟩
theorem fI (s:je) (d:Nat):eS s (visit s d):=by
 unfold visit
 split
 ·rename_i hn
  refine ⟨fun k hk=>cC hk,by simp,fun e he=> ?_⟩
  dsimp only
  rw [cK,if_neg]
  rintro ⟨rfl,_⟩
  omega
 ·exact eS.refl s
theorem vb {n:Nat} {less:List Int} {s:je} {d:Nat} (h:pn n less s) (hd:d < n):0≤aC (visit s d).2 d:=by
 unfold visit
 split
 ·dsimp only;rw [cK,if_pos ⟨rfl,by rw [h.len];exact hd⟩];omega
 ·rename_i hn;omega
theorem CS {ng:Nat} {im:List (List Int)} {less:List Int} (hF:Full ng im less) {i g:Nat} {s:je} (h:pn less.length less s) (hi:i < s.1.length) (hg:g < ng):
  pn less.length less (cY im less i s g)∧eS s (cY im less i s g)∧0≤aC (cY im less i s g).2 (image im less (aC s.1 i).toNat g).toNat:=by
 obtain ⟨d,h1,h2,h3,_⟩:=h.live i hi
 obtain ⟨e,e1,e2,e3⟩:=hF.image h2 h3 hg
 unfold cY
 rw [h1,Int.toNat_natCast,e1,Int.toNat_natCast]
 exact ⟨DL h e2 e3,fI s e,vb h e2⟩
theorem eG {ng:Nat} {im:List (List Int)} {less:List Int} (hF:Full ng im less) {i:Nat} {s:je} (h:pn less.length less s) (hi:i < s.1.length):∀m,m≤ng→
  pn less.length less ((List.range m).foldl (cY im less i) s)∧eS s ((List.range m).foldl (cY im less i) s)∧∀g,g < m→0≤aC ((List.range m).foldl (cY im less i) s).2 (image im less (aC s.1 i).toNat g).toNat
 | 0,_=>⟨h,eS.refl s,fun g hg=>by omega⟩
 | m + 1,hm=>by
  obtain ⟨h1,h2,h3⟩:=eG hF h hi m ae
  rw [List.range_succ,List.foldl_append]
  generalize (List.range m).foldl (cY im less i) s=t at *
  obtain ⟨k1,k2,k3⟩:=CS hF (i:=i) (g:=m) h1 (Nat.lt_of_lt_of_le hi h2.len) ae
  rw [h2.pre i hi] at k3
  refine ⟨k1,h2.trans k2,fun g hg=> ?_⟩
  by_cases e:g=m
  ·subst e;exact k3
  ·have:=h3 g ae
   show 0≤aC (cY im less i t m).2 _
   rw [k2.num _ this];exact this
def Seen (ng:Nat) (im:List (List Int)) (less:List Int) (i:Nat) (s:je):Prop:=∀k,k < i→∀g,g < ng→0≤aC s.2 (image im less (aC s.1 k).toNat g).toNat
theorem Seen.row {ng:Nat} {im:List (List Int)} {less:List Int} (hF:Full ng im less) {i:Nat} {s:je} (h:pn less.length less s) (hi:i < s.1.length) (hs:Seen ng im less i s):Seen ng im less (i + 1) (iS ng im less i s):=by
 obtain ⟨_,h2,h3⟩:=eG hF h hi ng (Nat.le_refl _)
 intro k hk g hg
 show 0≤aC (iS ng im less i s).2 _
 have e:aC (iS ng im less i s).1 k=aC s.1 k:=h2.pre k ae
 rw [e]
 by_cases e2:k=i
 ·subst e2;exact h3 g hg
 ·have:=hs k ae g hg
  have e3:=h2.num _ this
  unfold iS
  rw [e3];exact this
theorem rL {ng:Nat} {im:List (List Int)} {less:List Int} (hF:Full ng im less):∀(f i:Nat) (s:je),pn less.length less s→Seen ng im less i s→i≤s.1.length→less.length + 1≤f + i→
  pn less.length less (da ng im less f i s)∧Seen ng im less (da ng im less f i s).1.length (da ng im less f i s)
 | 0,i,s,h,hs,hi,hf=>by have:=h.le;omega
 | f + 1,i,s,h,hs,hi,hf=>by
  unfold da
  split
  ·rename_i hlt
   obtain ⟨h1,h2,_⟩:=eG hF h hlt ng (Nat.le_refl _)
   exact rL hF f (i + 1) _ h1 (hs.row hF h hlt) (Nat.le_trans hlt h2.len) ae
  ·rename_i hlt
   obtain rfl:i=s.1.length:=by omega
   exact ⟨h,hs⟩
theorem A7:∀n,wG (List.replicate n (-1))=0
 | 0=>rfl
 | n + 1=>by have:=A7 n;unfold wG at this ⊢;rw [List.replicate_succ,List.filter_cons,if_neg (by decide)];exact this
theorem fg {ng:Nat} {im:List (List Int)} {less:List Int} (hF:Full ng im less):pn less.length less (dE less.length):=by
 have hp:=hF.pos
 have hr:∀d,d < less.length→aC (List.replicate less.length (-1)) d= -1:=fun d hd=>fp hd
 refine ⟨by simp [dE], ?_,fun k hk=> ?_,fun d hd h0=> ?_⟩
 ·show wG ((List.replicate less.length (-1)).set 0 0)=1
  rw [vg _ _ _ (by simpa using hp) (by rw [hr 0 hp];decide) (by decide),A7]
 ·obtain rfl:k=0:=by simp [dE] at hk;omega
  exact ⟨0,rfl,hp,hF.zero,by show aC ((List.replicate less.length (-1)).set 0 0) 0=_;rw [cK,if_pos ⟨rfl,by simpa using hp⟩];rfl⟩
 ·have h0:0≤aC ((List.replicate less.length (-1)).set 0 0) d:=h0
  show aC ((List.replicate less.length (-1)).set 0 0) d < ((1:Nat):Int)
  rw [cK] at h0 ⊢
  split
  ·decide
  ·rename_i hne;rw [if_neg hne,hr d hd] at h0;omega
theorem gL {ng:Nat} {im:List (List Int)} {less:List Int} (hF:Full ng im less):pn less.length less (bO ng im less)∧Seen ng im less (bO ng im less).1.length (bO ng im less):=
 rL hF _ _ _ (fg hF) (fun k hk=>by omega) (Nat.zero_le _) ae
theorem gg {ng:Nat} {rels words:List (List Int)} (hr:∀w∈rels,bB ng w) (hw:∀w∈words,bB ng w) (hnf:(cm ng rels words).2.2=false):Full ng (cm ng rels words).1 (cm ng rels words).2.1:=
 ⟨(vG hr hw).wf,(vG hr hw).lo,fun c hc hl g hg=>(Bz hr hw hnf c hc).elim (fun h=>absurd hl h) fun h=>h g hg⟩
theorem lq {ng:Nat} {im:List (List Int)} {less:List Int} (hF:Full ng im less) {k g:Nat} (hk:k < (bO ng im less).1.length) (hg:g < ng):
  0≤aC (bO ng im less).2 (image im less (aC (bO ng im less).1 k).toNat g).toNat∧aC (bO ng im less).2 (image im less (aC (bO ng im less).1 k).toNat g).toNat < (bO ng im less).1.length:=by
 obtain ⟨h,hs⟩:=gL hF
 have h0:=hs k hk g hg
 obtain ⟨d,h1,h2,h3,_⟩:=h.live k hk
 obtain ⟨e,e1,e2,_⟩:=hF.image h2 h3 hg
 rw [h1,Int.toNat_natCast,e1,Int.toNat_natCast] at h0 ⊢
 exact ⟨h0,h.num e e2 h0⟩
end Go.Proofs.YtekbhbcgoadciaaGreat
namespace Go.Proofs.YtekbhbcgoadciaaGreat
theorem iA {less:List Int} (h:Down less) {c:Nat} (hc:c < less.length):root less (root less c)=root less c:=dj (eI h c hc).1
theorem sZ {less:List Int} (h:Down less) {lo hi:Nat} (hlt:lo < hi) (hh:hi < less.length) (hl0:aC less lo=(lo:Int)) (hh0:aC less hi=(hi:Int)):∀c,c < less.length→root (less.set hi (lo:Int)) c=if root less c=hi then lo else root less c:=by
 have hd:=tm h (lo:=lo) (hi:=hi) ae
 have hlo:aC (less.set hi (lo:Int)) lo=(lo:Int):=by rw [cK,if_neg ae];exact hl0
 intro c
 induction c using Nat.strongRecOn with
 | _ c ih=>
  intro hc
  by_cases e:aC less c=(c:Int)
  ·rw [dj e]
   by_cases e2:c=hi
   ·subst e2
    rw [if_pos rfl]
    have h1:aC (less.set c (lo:Int)) c=(lo:Int):=by rw [cK,if_pos ⟨rfl,hh⟩]
    rw [fK hd (by rw [List.length_set];exact hc) (by rw [h1];omega),h1,Int.toNat_natCast]
    exact dj hlo
   ·rw [if_neg e2]
    exact dj (by rw [cK,if_neg ae];exact e)
  ·have hb:=h c hc
   have hne:c≠hi:=fun e2=>by subst e2;exact e hh0
   have h1:aC (less.set hi (lo:Int)) c=aC less c:=by rw [cK,if_neg ae]
   rw [fK hd (by rw [List.length_set];exact hc) (by rw [h1];exact e),h1,fK h hc e]
   exact ih _ ae ae
theorem wW {less:List Int} (h:Down less):∀c,c < less.length→root (less ++ [(less.length:Int)]) c=root less c:=by
 have hd:Down (less ++ [(less.length:Int)]):=fun c hc=>by
  by_cases e:c < less.length
  ·rw [cC e];exact h c e
  ·obtain rfl:c=less.length:=by simp at hc;omega
   rw [dv];omega
 intro c
 induction c using Nat.strongRecOn with
 | _ c ih=>
  intro hc
  have h1:aC (less ++ [(less.length:Int)]) c=aC less c:=cC hc
  by_cases e:aC less c=(c:Int)
  ·rw [dj e,dj (h1.trans e)]
  ·have hb:=h c hc
   rw [fK hd (by simp;omega) (by rw [h1];exact e),h1,fK h hc e]
   exact ih _ ae ae
inductive iT (less:List Int) (q:List (Int×Int)):Nat→Nat→Prop where
 | refl (a:Nat):iT less q a a
 | symm {a b:Nat} (h:iT less q a b):iT less q b a
 | trans {a b c:Nat} (h:iT less q a b) (k:iT less q b c):iT less q a c
 | root (a:Nat) (h:a < less.length):iT less q a (root less a)
 | pair (p:Int×Int) (h:p∈q):iT less q p.1.toNat p.2.toNat
theorem iT.mono {less less':List Int} {q q':List (Int×Int)} (h1:∀a,a < less.length→iT less' q' a (Proofs.YtekbhbcgoadciaaGreat.root less a)) (h2:∀p∈q,iT less' q' p.1.toNat p.2.toNat) {a b:Nat} (h:iT less q a b):iT less' q' a b:=by
 induction h with
 | refl a=>exact .refl a
 | symm _ ih=>exact .symm ih
 | trans _ _ ih1 ih2=>exact .trans ih1 ih2
 | root a h=>exact h1 a h
 | pair p h=>exact h2 p h
theorem iT.rh {less:List Int} (hd:Down less) {a b:Nat} (h:iT less [] a b):Proofs.YtekbhbcgoadciaaGreat.root less a=Proofs.YtekbhbcgoadciaaGreat.root less b:=by
 induction h with
 | refl a=>rfl
 | symm _ ih=>exact ih.symm
 | trans _ _ ih1 ih2=>exact ih1.trans ih2
 | root a h=>exact (iA hd h).symm
 | pair p h=>simp at h
def fy (ng:Nat) (im:List (List Int)) (less:List Int) (q:List (Int×Int)):Prop:=
 ∀c g,c < less.length→aC less c=(c:Int)→g < ng→0≤bZ im c g→0≤bZ im (root less (bZ im c g).toNat) g∧iT less q (bZ im (root less (bZ im c g).toNat) g).toNat c
theorem lh {ng lo hi:Nat} {im:List (List Int)} {less:List Int} {q:List (Int×Int)} (h:WF ng im less) (hlo:lo < im.length) (hne:lo≠hi):∀g,g≤ng→
  (∀c k,(c≠lo∨g≤k)→bZ (bH lo hi (im,q) g).1 c k=bZ im c k)∧(∀k,k < g→bZ (bH lo hi (im,q) g).1 lo k=if bZ im hi k < 0 then bZ im lo k else if 0≤bZ im lo k then bZ im lo k else bZ im hi k)∧
  (∀p∈q,p∈(bH lo hi (im,q) g).2)∧(∀k,k < g→0≤bZ im hi k→0≤bZ im lo k→(bZ im hi k,bZ im lo k)∈(bH lo hi (im,q) g).2)∧((bH lo hi (im,q) g).1.length=im.length∧∀c,(bn (bH lo hi (im,q) g).1 c).length=(bn im c).length)
 | 0,_=>⟨fun _ _ _=>rfl,fun k hk=>by omega,fun _ h=>h,fun k hk=>by omega,rfl,fun _=>rfl⟩
 | g + 1,hg=>by
  obtain ⟨h1,h2,h3,h4,h5,h6⟩:=lh h hlo hne g ae (q:=q)
  have ehi:bZ (bH lo hi (im,q) g).1 hi g=bZ im hi g:=h1 hi g (.inl (fun e=>hne e.symm))
  have elo:bZ (bH lo hi (im,q) g).1 lo g=bZ im lo g:=h1 lo g (.inr (Nat.le_refl _))
  simp only [bH,stepG,ehi,elo]
  split
  ·rename_i hn
   refine ⟨fun c k hk=>h1 c k (hk.imp id fun h=>by omega),fun k hk=> ?_,h3,fun k hk a b=> ?_,h5,h6⟩
   ·by_cases e:k=g
    ·subst e;rw [elo,if_pos hn]
    ·exact h2 k ae
   ·by_cases e:k=g
    ·subst e;omega
    ·exact h4 k ae a b
  ·rename_i hn
   split
   ·rename_i hp
    refine ⟨fun c k hk=>h1 c k (hk.imp id fun h=>by omega),fun k hk=> ?_,fun p hp'=>by simp [h3 p hp'],fun k hk a b=> ?_,h5,h6⟩
    ·by_cases e:k=g
     ·subst e;rw [elo,if_neg hn,if_pos hp]
     ·exact h2 k ae
    ·by_cases e:k=g
     ·subst e;simp
     ·simp [h4 k ae a b]
   ·rename_i hp
    have hlen:lo < (bH lo hi (im,q) g).1.length:=by rw [h5];exact hlo
    have hrow:g < (bn (bH lo hi (im,q) g).1 lo).length:=by rw [h6,h.row lo hlo];omega
    refine ⟨fun c k hk=> ?_,fun k hk=> ?_,h3,fun k hk a b=> ?_,by rw [dB];exact h5,fun c=>by rw [iG];exact h6 c⟩
    ·dsimp only
     rw [eK hlen hrow,if_neg (by rcases hk with hk | hk<;>omega)]
     exact h1 c k (hk.imp id fun h=>by omega)
    ·dsimp only
     rw [eK hlen hrow]
     by_cases e:k=g
     ·subst e;rw [if_pos ⟨rfl,rfl⟩,if_neg hn,if_neg hp]
     ·rw [if_neg ae];exact h2 k ae
    ·by_cases e:k=g
     ·subst e;omega
     ·exact h4 k ae a b
theorem fy.merge {ng lo hi:Nat} {im:List (List Int)} {less:List Int} {p:Int×Int} {q:List (Int×Int)} (h:WF ng im less) (hB:fy ng im less (p :: q)) (hp:p.1.toNat < less.length∧p.2.toNat < less.length) (hlt:lo < hi) (hhi:hi < less.length) (hl0:aC less lo=(lo:Int)) (hh0:aC less hi=(hi:Int))
  (hr:(root less p.1.toNat=lo∧root less p.2.toNat=hi)∨(root less p.1.toNat=hi∧root less p.2.toNat=lo)):fy ng (bH lo hi (im,q) ng).1 (less.set hi (lo:Int)) (bH lo hi (im,q) ng).2:=by
 have hil:lo < im.length:=by rw [h.len];omega
 obtain ⟨m1,m2,m3,m4,_⟩:=lh (q:=q) h hil (by omega:lo≠hi) ng (Nat.le_refl _)
 have hrs:=sZ h.down hlt hhi hl0 hh0
 have hd:=tm h.down (lo:=lo) (hi:=hi) ae
 generalize (bH lo hi (im,q) ng).1=im' at *
 generalize (bH lo hi (im,q) ng).2=q' at *
 have hlh:iT (less.set hi (lo:Int)) q' hi lo:=by
  have:=iT.root (less:=less.set hi (lo:Int)) (q:=q') hi (by rw [List.length_set];exact hhi)
  rwa [hrs hi hhi,dj hh0,if_pos rfl] at this
 have hroot:∀a,a < less.length→iT (less.set hi (lo:Int)) q' a (root less a):=fun a ha=>by
  have:=iT.root (less:=less.set hi (lo:Int)) (q:=q') a (by rw [List.length_set];exact ha)
  rw [hrs a ha] at this
  by_cases e:root less a=hi
  ·rw [if_pos e] at this;rw [e];exact this.trans hlh.symm
  ·rwa [if_neg e] at this
 have hmono:∀ {a b:Nat},iT less (p :: q) a b→iT (less.set hi (lo:Int)) q' a b:=fun hab=>by
  refine iT.mono hroot (fun x hx=> ?_) hab
  rcases List.mem_cons.1 hx with rfl | hx
  ·have k1:=hroot _ hp.1
   have k2:=hroot _ hp.2
   rcases hr with ⟨r1,r2⟩ | ⟨r1,r2⟩
   ·rw [r1] at k1;rw [r2] at k2;exact k1.trans (hlh.symm.trans k2.symm)
   ·rw [r1] at k1;rw [r2] at k2;exact k1.trans (hlh.trans k2.symm)
  ·exact .pair x (m3 x hx)
 have elo:∀g,g < ng→(0≤bZ im lo g→bZ im' lo g=bZ im lo g)∧(0≤bZ im hi g→0≤bZ im' lo g∧iT (less.set hi (lo:Int)) q' (bZ im' lo g).toNat (bZ im hi g).toNat):=fun g hg=>by
  have e:=m2 g hg
  refine ⟨fun h0=> ?_,fun h0=> ?_⟩
  ·rw [e];split<;>first | rfl | rw [if_pos h0]
  ·by_cases h1:0≤bZ im lo g
   ·rw [e,if_neg ae,if_pos h1]
    exact ⟨h1,(iT.pair _ (m4 g hg h0 h1)).symm⟩
   ·rw [e,if_neg ae,if_neg h1]
    exact ⟨h0, .refl _⟩
 have key:∀r g,r < less.length→g < ng→0≤bZ im r g→0≤bZ im' (if r=hi then lo else r) g∧iT (less.set hi (lo:Int)) q' (bZ im' (if r=hi then lo else r) g).toNat (bZ im r g).toNat:=fun r g hr' hg h0=>by
  by_cases e:r=hi
  ·subst e;rw [if_pos rfl];exact (elo g hg).2 h0
  ·rw [if_neg e]
   by_cases e2:r=lo
   ·subst e2;rw [(elo g hg).1 h0];exact ⟨h0, .refl _⟩
   ·rw [m1 r g (.inl e2)];exact ⟨h0, .refl _⟩
 intro c g hc hlive hg h0
 rw [List.length_set] at hc
 have hch:c≠hi:=fun e=>by subst e;rw [cK,if_pos ⟨rfl,hhi⟩] at hlive;omega
 have hlv:aC less c=(c:Int):=by rw [cK,if_neg (fun e=>hch e.1.symm)] at hlive;exact hlive
 have src:(0≤bZ im c g∧bZ im' c g=bZ im c g)∨(c=lo∧bZ im c g < 0∧0≤bZ im hi g∧bZ im' c g=bZ im hi g):=by
  by_cases e:c=lo
  ·subst e
   have e':=m2 g hg
   by_cases h1:0≤bZ im c g
   ·exact .inl ⟨h1,(elo g hg).1 h1⟩
   ·right
    rw [e'] at h0 ⊢
    split at h0
    ·omega
    ·rename_i h2
     rw [if_neg h2,if_neg h1]
     exact ⟨rfl,ae,ae,rfl⟩
  ·rw [m1 c g (.inl e)] at h0
   exact .inl ⟨h0,m1 c g (.inl e)⟩
 have hcl:c < im.length:=by rw [h.len];exact hc
 rcases src with ⟨h1,h2⟩ | ⟨rfl,h1,h2,h3⟩
 ·rw [h2]
  obtain ⟨k1,k2⟩:=hB c g hc hlv hg h1
  have hel:=h.bZ c g hcl hg
  have hrl:=de h.down (c:=(bZ im c g).toNat) ae
  rw [hrs _ ae]
  obtain ⟨k3,k4⟩:=key _ g hrl hg k1
  exact ⟨k3,k4.trans (hmono k2)⟩
 ·rw [h3]
  obtain ⟨k1,k2⟩:=hB hi g hhi hh0 hg h2
  have hel:=h.bZ hi g (by rw [h.len];exact hhi) hg
  have hrl:=de h.down (c:=(bZ im hi g).toNat) ae
  rw [hrs _ ae]
  obtain ⟨k3,k4⟩:=key _ g hrl hg k1
  exact ⟨k3,(k4.trans (hmono k2)).trans hlh⟩
theorem fy.Dr {ng:Nat} {im:List (List Int)} {less:List Int} {q q':List (Int×Int)} (hB:fy ng im less q) (hq:∀p∈q,iT less q' p.1.toNat p.2.toNat):fy ng im less q':=fun c g hc hl hg h0=>by
 obtain ⟨k1,k2⟩:=hB c g hc hl hg h0
 exact ⟨k1,k2.mono (fun a ha=> .root a ha) hq⟩
theorem jY {ng n:Nat} :∀(f:Nat) (im:List (List Int)) (less:List Int) (q:List (Int×Int)),WF ng im less→less.length=n→nj n q→fuel ng less q≤f→fy ng im less q→fy ng (cP ng f im less q).1 (cP ng f im less q).2 []
 | 0,im,less,q,h,hn,hq,hf,hB=>by
  have:q= []:=List.eq_nil_of_length_eq_zero (by unfold fuel at hf;omega)
  subst this;exact hB
 | f + 1,im,less, [],h,hn,hq,hf,hB=>hB
 | f + 1,im,less,p :: q,h,hn,hq,hf,hB=>by
  have hp:=hq p (by simp)
  have hq':nj less.length q:=fun x hx=>hn ▸ hq x (by simp [hx])
  have hr1:=eI h.down p.1.toNat ae
  have hr2:=eI h.down p.2.toNat ae
  have hfu:fuel ng less (p :: q)=fuel ng less q + 1:=by unfold fuel;simp;omega
  simp only [cP]
  split
  ·rename_i he
   refine jY f im less q h hn (fun x hx=>hq x (by simp [hx])) ae (hB.Dr fun x hx=> ?_)
   rcases List.mem_cons.1 hx with rfl | hx
   ·have k1:=iT.root (less:=less) (q:=q) x.1.toNat ae
    have k2:=iT.root (less:=less) (q:=q) x.2.toNat ae
    rw [he] at k1;exact k1.trans k2.symm
   ·exact .pair x hx
  ·rename_i hne
   have hid:=ke h (hn ▸ hq) hne
   unfold gv at hid
   obtain ⟨_,w1,w2,w3⟩:=hid
   have hroots:aC less (min (root less p.1.toNat) (root less p.2.toNat))=((min (root less p.1.toNat) (root less p.2.toNat):Nat):Int)∧aC less (max (root less p.1.toNat) (root less p.2.toNat))=((max (root less p.1.toNat) (root less p.2.toNat):Nat):Int):=by
    rcases Nat.le_total (root less p.1.toNat) (root less p.2.toNat) with h5 | h5
    ·rw [Nat.min_eq_left h5,Nat.max_eq_right h5];exact ⟨hr1.1,hr2.1⟩
    ·rw [Nat.min_eq_right h5,Nat.max_eq_left h5];exact ⟨hr2.1,hr1.1⟩
   have hbk:=hB.merge h ae (lo:=min (root less p.1.toNat) (root less p.2.toNat)) (hi:=max (root less p.1.toNat) (root less p.2.toNat)) ae ae hroots.1 hroots.2 (by
    rcases Nat.le_total (root less p.1.toNat) (root less p.2.toNat) with h5 | h5
    ·left;rw [Nat.min_eq_left h5,Nat.max_eq_right h5];exact ⟨rfl,rfl⟩
    ·right;rw [Nat.min_eq_right h5,Nat.max_eq_left h5];exact ⟨rfl,rfl⟩)
   exact jY f _ _ _ w1 (by rw [List.length_set];exact hn) (hn ▸ w2) ae hbk
theorem nw {ng:Nat} {im:List (List Int)} {less:List Int} {p:Int×Int} (h:WF ng im less) (hq:nj less.length [p]) (hB:fy ng im less []):fy ng (ident ng im less [p]).1 (ident ng im less [p]).2 []:=
 jY _ im less [p] h rfl hq (Nat.le_refl _) (hB.Dr fun x hx=>by simp at hx)
section
variable {ng:Nat} {im:List (List Int)} {less:List Int}
theorem fy.fix (hB:fy ng im less []) (h:WF ng im less) {c g:Nat} (hc:c < less.length) (hl:aC less c=(c:Int)) (hg:g < ng) (h0:0≤bZ im c g):0≤bZ im (root less (bZ im c g).toNat) g∧root less (bZ im (root less (bZ im c g).toNat) g).toNat=c:=by
 obtain ⟨k1,k2⟩:=hB c g hc hl hg h0
 exact ⟨k1,(k2.rh h.down).trans (dj hl)⟩
theorem fy.of (h:∀c g,c < less.length→aC less c=(c:Int)→g < ng→0≤bZ im c g→0≤bZ im (root less (bZ im c g).toNat) g∧root less (bZ im (root less (bZ im c g).toNat) g).toNat=c) (hw:WF ng im less):fy ng im less []:=fun c g hc hl hg h0=>by
 obtain ⟨k1,k2⟩:=h c g hc hl hg h0
 refine ⟨k1, ?_⟩
 have he:=hw.bZ c g (by rw [hw.len];exact hc) hg
 have hrl:=de hw.down (c:=(bZ im c g).toNat) ae
 have he2:=hw.bZ (root less (bZ im c g).toNat) g (by rw [hw.len];exact hrl) hg
 have:=iT.root (less:=less) (q:= []) (bZ im (root less (bZ im c g).toNat) g).toNat ae
 rwa [k2] at this
theorem fy.link (hB:fy ng im less []) (hw:WF ng im less) {c d g:Nat} (hc:c < less.length) (hd:d < less.length) (hlc:aC less c=(c:Int)) (hld:aC less d=(d:Int)) (hg:g < ng) (h1:bZ im c g < 0) (h2:bZ im d g < 0):fy ng (eh (eh im d g (c:Int)) c g (d:Int)) less []:=by
 have hl:=hw.len
 have w1:=hw.gD (c:=d) (g:=g) (z:=(c:Int)) ae hg ae
 have w2:=w1.gD (c:=c) (g:=g) (z:=(d:Int)) (by rw [dB];omega) hg ae
 have ee:∀a k,bZ (eh (eh im d g (c:Int)) c g (d:Int)) a k=if c=a∧g=k then (d:Int) else if d=a∧g=k then (c:Int) else bZ im a k:=fun a k=>by
  rw [eK (by rw [dB];omega) (by rw [iG,hw.row c ae];exact hg),eK ae (by rw [hw.row d ae];exact hg)]
 refine fy.of (fun a k ha hla hk h0=> ?_) w2
 have e0:=ee a k
 by_cases e1:c=a∧g=k
 ·obtain ⟨rfl,rfl⟩:=e1
  rw [if_pos ⟨rfl,rfl⟩] at e0
  rw [e0,Int.toNat_natCast,dj hld]
  have e3:=ee d g
  by_cases e2:c=d
  ·subst e2;rw [if_pos ⟨rfl,rfl⟩] at e3;rw [e3,Int.toNat_natCast];exact ⟨ae,dj hlc⟩
  ·rw [if_neg (fun h=>e2 h.1),if_pos ⟨rfl,rfl⟩] at e3;rw [e3,Int.toNat_natCast];exact ⟨ae,dj hlc⟩
 ·rw [if_neg e1] at e0
  by_cases e2:d=a∧g=k
  ·obtain ⟨rfl,rfl⟩:=e2
   rw [if_pos ⟨rfl,rfl⟩] at e0
   rw [e0,Int.toNat_natCast,dj hlc]
   have e3:=ee c g
   rw [if_pos ⟨rfl,rfl⟩] at e3
   rw [e3,Int.toNat_natCast];exact ⟨ae,dj hld⟩
  ·rw [if_neg e2] at e0
   rw [e0] at h0 ⊢
   obtain ⟨k1,k2⟩:=hB.fix hw ha hla hk h0
   have n1:¬(c=root less (bZ im a k).toNat∧g=k):=fun h=>by rw [←h.1,←h.2] at k1;omega
   have n2:¬(d=root less (bZ im a k).toNat∧g=k):=fun h=>by rw [←h.1,←h.2] at k1;omega
   have e3:=ee (root less (bZ im a k).toNat) k
   rw [if_neg n1,if_neg n2] at e3
   rw [e3]
   exact ⟨k1,k2⟩
theorem fy.app (hB:fy ng im less []) (hw:WF ng im less):fy ng (im ++ [List.replicate ng (-1)]) (less ++ [(less.length:Int)]) []:=by
 have hl:=hw.len
 have hra:=wW hw.down
 refine fy.of (fun a k ha hla hk h0=> ?_) hw.app
 by_cases e:a < less.length
 ·have e1:∀b,b < less.length→bZ (im ++ [List.replicate ng (-1)]) b k=bZ im b k:=fun b hb=>by unfold bZ;rw [fh ae]
  rw [e1 a e] at h0 ⊢
  rw [cC e] at hla
  obtain ⟨k1,k2⟩:=hB.fix hw e hla hk h0
  have he:=hw.bZ a k ae hk
  have hrl:=de hw.down (c:=(bZ im a k).toNat) ae
  have he2:=hw.bZ (root less (bZ im a k).toNat) k ae hk
  rw [hra _ ae,e1 _ hrl,hra _ ae]
  exact ⟨k1,k2⟩
 ·obtain rfl:a=less.length:=by simp at ha;omega
  exfalso
  unfold bZ at h0
  rw [←hl,fH,fp hk] at h0
  omega
theorem fy.next (hB:fy ng im less []) (hw:WF ng im less) {c g:Nat} (hc:c < less.length) (hlc:aC less c=(c:Int)) (hg:g < ng) (hn:less.length≤2000):
  fy ng (ck ng im less c g).1 (ck ng im less c g).2.1 []∧((ck ng im less c g).2.2.1=false→aC (ck ng im less c g).2.1 (ck ng im less c g).2.2.2=((ck ng im less c g).2.2.2:Int))∧(∀a,a < less.length→aC (ck ng im less c g).2.1 a=aC less a):=by
 unfold ck
 split
 ·rename_i h0
  have he:=hw.bZ c g (by rw [hw.len];exact hc) hg
  exact ⟨hB,fun _=>(eI hw.down _ ae).1,fun _ _=>rfl⟩
 ·rename_i h0
  split
  ·exact ⟨hB,(fun h=>nomatch h),fun _ _=>rfl⟩
  ·have hl:=hw.len
   have b1:=hB.app hw
   have w1:=hw.app
   refine ⟨?_,fun _=>dv,fun a ha=>cC ha⟩
   have hcc:c < (less ++ [(less.length:Int)]).length:=by simp;omega
   have:=b1.link w1 (c:=less.length) (d:=c) (g:=g) (by simp) hcc dv (by rw [cC hc];exact hlc) hg (by unfold bZ;rw [←hl,fH,fp hg];omega) (by unfold bZ at h0 ⊢;rw [fh ae];omega)
   exact this
end
theorem th {ng n0:Nat} :∀(w:List Nat) (s:List (List Int)×List Int×Bool×Nat),vW ng n0 s→fy ng s.1 s.2.1 []→(s.2.2.1=false→aC s.2.1 s.2.2.2=(s.2.2.2:Int))→(∀g∈w,g < ng)→
  fy ng (ic ng s w).1 (ic ng s w).2.1 []∧((ic ng s w).2.2.1=false→aC (ic ng s w).2.1 (ic ng s w).2.2.2=((ic ng s w).2.2.2:Int))∧(∀a,a < s.2.1.length→aC (ic ng s w).2.1 a=aC s.2.1 a)
 | [],s,h,hB,hl,_=>⟨hB,hl,fun _ _=>rfl⟩
 | g :: r,s,h,hB,hl,hg=>by
  unfold ic
  split
  ·exact ⟨hB,hl,fun _ _=>rfl⟩
  ·rename_i hf
   obtain ⟨b1,b2,b3⟩:=hB.next h.wf h.d (hl (by simpa using hf)) (hg g (by simp)) h.hi
   obtain ⟨h1,h2,h3,h4,_⟩:=gV h.wf h.d (hg g (by simp)) h.hi
   obtain ⟨c1,c2,c3⟩:=th (n0:=n0) r _ ⟨h1,Nat.le_trans h.lo h2,h3,h4⟩ b1 b2 fun x hx=>hg x (by simp [hx])
   exact ⟨c1,c2,fun a ha=>(c3 a ae).trans (b3 a ha)⟩
theorem ql {ng:Nat} {im:List (List Int)} {less:List Int} {c:Nat} {w:List Nat} (h:WF ng im less) (hB:fy ng im less []) (hc:c < less.length) (hl:aC less c=(c:Int)) (hn:less.length≤2000) (hg:∀g∈w,g < ng):fy ng (db ng im less c w).1 (db ng im less c w).2.1 []:=by
 unfold db
 cases hw:w.getLast? with
 | none=>exact hB
 | some g=>
  have hgl:g < ng:=hg g (List.mem_of_getLast? hw)
  have ok:=nE (n0:=less.length) w.dropLast (im,less,false,c) ⟨h,Nat.le_refl _,hn,hc⟩ fun x hx=>hg x (List.dropLast_subset _ hx)
  obtain ⟨b1,b2,b3⟩:=th (n0:=less.length) w.dropLast (im,less,false,c) ⟨h,Nat.le_refl _,hn,hc⟩ hB (fun _=>hl) fun x hx=>hg x (List.dropLast_subset _ hx)
  generalize ic ng (im,less,false,c) w.dropLast=s at *
  have hcs:c < s.2.1.length:=Nat.lt_of_lt_of_le hc ok.lo
  have hlc:aC s.2.1 c=(c:Int):=(b3 c hc).trans hl
  dsimp only
  split
  ·exact b1
  ·rename_i hf
   have e1:=eL ok.wf ok.d hgl
   have e2:=eL ok.wf hcs hgl
   have hd:=ok.d
   split
   ·rename_i he
    exact nw ok.wf (fun p hp=>by simp at hp;subst hp;exact ⟨⟨he,e1⟩,ae,by dsimp only;omega⟩) b1
   ·rename_i he
    split
    ·rename_i hf
     exact nw ok.wf (fun p hp=>by simp at hp;subst hp;exact ⟨⟨hf,e2⟩,ae,by dsimp only;omega⟩) b1
    ·rename_i hf2
     refine b1.link ok.wf hcs hd hlc (b2 (by simpa using hf)) hgl ?_ ?_
     ·unfold image at hf2;split at hf2<;>omega
     ·unfold image at he;split at he<;>omega
def BK (ng n:Nat) (s:dR):Prop:=cD ng n s∧fy ng s.1 s.2.1 []
theorem qD {ng n:Nat} {s:dR} {w:List Int} (h:BK ng n s) (hn:0 < n) (hw:bB ng w):BK ng n (dD ng s w):=by
 refine ⟨kF h.1 hn hw, ?_⟩
 have h0:0 < s.2.1.length:=Nat.lt_of_lt_of_le hn h.1.lo
 unfold dD
 split
 ·exact h.2
 ·exact ql h.1.wf h.2 h0 (by have:=h.1.wf.down 0 h0;omega) h.1.hi hw.nat
theorem qn {ng n c:Nat} {s:dR} {w:List Int} (h:BK ng n s) (hn:c < n) (hw:bB ng w):BK ng n (c9 ng c s w):=by
 refine ⟨jo h.1 hn hw, ?_⟩
 unfold c9
 split
 ·rename_i hl
  exact ql h.1.wf h.2 (Nat.lt_of_lt_of_le hn h.1.lo) (by unfold fb at hl;simp at hl;exact hl.1) h.1.hi hw.nat
 ·exact h.2
theorem rO {ng n c g:Nat} {s:dR} (h:BK ng n s) (hn:c < n) (hg:g < ng):BK ng n (dm ng c s g):=by
 refine ⟨kM h.1 hn hg, ?_⟩
 unfold dm
 split
 ·rename_i hl
  exact (h.2.next h.1.wf (Nat.lt_of_lt_of_le hn h.1.lo) (by unfold fb at hl;simp at hl;exact hl.1) hg h.1.hi).1
 ·exact h.2
theorem lI {α:Type} {ng n:Nat} {f:dR→α→dR} {p:α→Prop} (hf:∀s x,BK ng n s→p x→BK ng n (f s x)):∀(l:List α) (s:dR),BK ng n s→(∀x∈l,p x)→BK ng n (l.foldl f s)
 | [],s,h,_=>h
 | x :: r,s,h,hp=>lI hf r _ (hf s x h (hp x (by simp))) fun y hy=>hp y (by simp [hy])
theorem yo {ng n c:Nat} {rels:List (List Int)} {s:dR} (h:BK ng n s) (hn:c < n) (hr:∀w∈rels,bB ng w):BK ng n (eo ng rels c s):=
 lI (p:=fun g=>g < ng) (fun s g h hg=>rO h hn hg) _ _ (lI (p:=bB ng) (fun s w h hw=>qn h hn hw) _ _ h hr) fun g hg=>List.mem_range.1 hg
theorem sF {ng n:Nat} {rels:List (List Int)} (hr:∀w∈rels,bB ng w):∀(f c:Nat) (s:dR),BK ng n s→BK ng n (outer ng rels f c s)
 | 0,_,s,h=>h
 | f + 1,c,s,h=>by
  unfold outer
  split
  ·rename_i hc
   have:=yo (n:=s.2.1.length) ⟨⟨h.1.wf,Nat.le_refl _,h.1.hi⟩,h.2⟩ hc.1 hr
   exact sF hr f _ _ ⟨this.1.le h.1.lo,this.2⟩
  ·exact h
theorem qo (ng:Nat):BK ng 1 (dG ng):=⟨jm ng,fun c g hc _ hg h0=>by
 exfalso
 obtain rfl:c=0:=by simp [dG] at hc;omega
 simp [dG,bZ,bn,aC,hg] at h0⟩
theorem ud {ng:Nat} {rels words:List (List Int)} (hr:∀w∈rels,bB ng w) (hw:∀w∈words,bB ng w):BK ng 1 (cm ng rels words):=
 sF hr _ _ _ (lI (p:=bB ng) (fun s w h hw=>qD h ae hw) _ _ (qo ng) hw)
theorem Av {ng:Nat} {im:List (List Int)} {less:List Int} (hF:Full ng im less) (hB:fy ng im less []) {c g:Nat} (hc:c < less.length) (hl:aC less c=(c:Int)) (hg:g < ng):image im less (image im less c g).toNat g=(c:Int):=by
 have h0:=hF.full c hc hl g hg
 obtain ⟨k1,k2⟩:=hB.fix hF.wf hc hl hg h0
 have e:image im less c g=(root less (bZ im c g).toNat:Nat):=by unfold image;rw [if_neg ae]
 rw [e,Int.toNat_natCast]
 unfold image
 rw [if_neg ae,k2]
def qv (n:Nat) (s:je):Prop:=∀d,d < n→0≤aC s.2 d→aC s.1 (aC s.2 d).toNat=(d:Int)
theorem x8 {n:Nat} {less:List Int} {s:je} {d:Nat} (h:pn n less s) (hb:qv n s) (hd:d < n):qv n (visit s d):=by
 unfold visit
 split
 ·rename_i hn
  intro e he h0
  dsimp only at h0 ⊢
  rw [cK] at h0 ⊢
  split
  ·rename_i h1;rw [Int.toNat_natCast,dv,h1.1]
  ·rename_i h1
   rw [if_neg h1] at h0
   rw [cC (by have:=h.num e he h0;omega)]
   exact hb e he h0
 ·exact hb
theorem um {ng:Nat} {im:List (List Int)} {less:List Int} (hF:Full ng im less) {i:Nat} {s:je} (h:pn less.length less s) (hb:qv less.length s) (hi:i < s.1.length):∀m,m≤ng→qv less.length ((List.range m).foldl (cY im less i) s)
 | 0,_=>hb
 | m + 1,hm=>by
  have ih:=um hF h hb hi m ae
  obtain ⟨h1,h2,_⟩:=eG hF h hi m ae
  rw [List.range_succ,List.foldl_append]
  generalize (List.range m).foldl (cY im less i) s=t at *
  obtain ⟨d,k1,k2,k3,_⟩:=h1.live i (Nat.lt_of_lt_of_le hi h2.len)
  obtain ⟨e,e1,e2,_⟩:=hF.image k2 k3 (g:=m) ae
  show qv less.length (cY im less i t m)
  unfold cY
  rw [k1,Int.toNat_natCast,e1,Int.toNat_natCast]
  exact x8 h1 ih e2
theorem tp {ng:Nat} {im:List (List Int)} {less:List Int} (hF:Full ng im less):∀(f i:Nat) (s:je),pn less.length less s→qv less.length s→qv less.length (da ng im less f i s)
 | 0,i,s,_,hb=>hb
 | f + 1,i,s,h,hb=>by
  unfold da
  split
  ·rename_i hlt
   exact tp hF f (i + 1) _ (eG hF h hlt ng (Nat.le_refl _)).1 (um hF h hb hlt ng (Nat.le_refl _))
  ·exact hb
theorem lZ {ng:Nat} {im:List (List Int)} {less:List Int} (hF:Full ng im less):qv less.length (bO ng im less):=
 tp hF _ _ _ (fg hF) fun d hd h0=>by
  have hp:=hF.pos
  have h0:0≤aC ((List.replicate less.length (-1)).set 0 0) d:=h0
  show aC [0] (aC ((List.replicate less.length (-1)).set 0 0) d).toNat=_
  rw [cK] at h0 ⊢
  split
  ·rename_i h1;rw [←h1.1];rfl
  ·rename_i h1;rw [if_neg h1,fp hd] at h0;omega
def jN (ng:Nat) (im:List (List Int)) (less:List Int) (k g:Nat):Int:=aC (bO ng im less).2 (image im less (aC (bO ng im less).1 k).toNat g).toNat
theorem uq {ng:Nat} {im:List (List Int)} {less:List Int} (hF:Full ng im less) (hB:fy ng im less []) {k g:Nat} (hk:k < (bO ng im less).1.length) (hg:g < ng):jN ng im less (jN ng im less k g).toNat g=(k:Int):=by
 obtain ⟨h,hs⟩:=gL hF
 obtain ⟨d,h1,h2,h3,h4⟩:=h.live k hk
 obtain ⟨e,e1,e2,e3⟩:=hF.image h2 h3 hg
 have h0:=hs k hk g hg
 have hn:=lZ hF e e2
 have hi:=Av hF hB h2 h3 hg
 unfold jN
 rw [h1,Int.toNat_natCast,e1,Int.toNat_natCast] at h0 ⊢
 rw [e1,Int.toNat_natCast] at hi
 rw [hn h0,Int.toNat_natCast,hi,Int.toNat_natCast,h4]
end Go.Proofs.YtekbhbcgoadciaaGreat
namespace Go.Proofs.YtekbhbcgoadciaaGreat
structure tR {X:Type} (ng:Nat) (f:Nat→X→X) (im:List (List Int)) (less:List Int) (h:Nat→X):Prop where
 entv:∀c g,c < less.length→g < ng→0≤bZ im c g→h (bZ im c g).toNat=f g (h c)
 lessv:∀c,c < less.length→h (aC less c).toNat=h c
def cS {X:Type} (f:Nat→X→X) (x:X) (w:List Nat):X:=w.foldl (fun y g=>f g y) x
section
variable {X:Type} {ng:Nat} {f:Nat→X→X} {im:List (List Int)} {less:List Int} {h:Nat→X}
theorem tR.root (H:tR ng f im less h) (hd:Down less):∀c,c < less.length→h (root less c)=h c:=by
 intro c
 induction c using Nat.strongRecOn with
 | _ c ih=>
  intro hc
  by_cases e:aC less c=(c:Int)
  ·rw [dj e]
  ·have hb:=hd c hc
   rw [fK hd hc e,ih _ ae ae]
   exact H.lessv c hc
theorem tR.AW (H:tR ng f im less h) (hw:WF ng im less) {c g:Nat} (hc:c < less.length) (hg:g < ng) (h0:0≤image im less c g):h (image im less c g).toNat=f g (h c):=by
 unfold image at h0 ⊢
 by_cases e:bZ im c g < 0
 ·rw [if_pos e] at h0;omega
 ·rw [if_neg e]
  have:=hw.bZ c g (by rw [hw.len];exact hc) hg
  rw [Int.toNat_natCast,H.root hw.down _ ae,H.entv c g hc hg ae]
theorem tR.set (H:tR ng f im less h) (hw:WF ng im less) {c g z:Nat} (hc:c < less.length) (hg:g < ng) (hz:h z=f g (h c)):tR ng f (eh im c g (z:Int)) less h:=
 ⟨fun a k ha hk h0=>by
  have e:=eK (im:=im) (c:=c) (g:=g) (k:=a) (j:=k) (z:=(z:Int)) (by rw [hw.len];exact hc) (by rw [hw.row c (by rw [hw.len];exact hc)];exact hg)
  rw [e] at h0 ⊢
  by_cases e2:c=a∧g=k
  ·rw [if_pos e2,Int.toNat_natCast,hz,e2.1,e2.2]
  ·rw [if_neg e2] at h0 ⊢;exact H.entv a k ha hk h0,H.lessv⟩
theorem tR.next (H:tR ng f im less h) (hinv:∀g x,g < ng→f g (f g x)=x) (hw:WF ng im less) {c g:Nat} (hc:c < less.length) (hg:g < ng):
  ∃h',tR ng f (ck ng im less c g).1 (ck ng im less c g).2.1 h'∧(∀a,a < less.length→h' a=h a)∧((ck ng im less c g).2.2.1=false→h' (ck ng im less c g).2.2.2=f g (h c)):=by
 unfold ck
 split
 ·rename_i h0
  have he:=hw.bZ c g (by rw [hw.len];exact hc) hg
  exact ⟨h,H,fun _ _=>rfl,fun _=>by rw [H.root hw.down _ ae];exact H.entv c g hc hg h0⟩
 ·split
  ·exact ⟨h,H,fun _ _=>rfl,fun h=>nomatch h⟩
  ·have hl:=hw.len
   have w1:=hw.app
   have ha:∀a,a < less.length→(fun a=>if a=less.length then f g (h c) else h a) a=h a:=fun a ha=>if_neg ae
   have hn:(fun a=>if a=less.length then f g (h c) else h a) less.length=f g (h c):=if_pos rfl
   refine ⟨fun a=>if a=less.length then f g (h c) else h a, ?_,ha,fun _=>hn⟩
   generalize (fun a=>if a=less.length then f g (h c) else h a)=h' at *
   have H1:tR ng f (im ++ [List.replicate ng (-1)]) (less ++ [(less.length:Int)]) h':=by
    refine ⟨fun a k hka hk h0=> ?_,fun a hka=> ?_⟩
    ·by_cases e:a < less.length
     ·have e1:bZ (im ++ [List.replicate ng (-1)]) a k=bZ im a k:=by unfold Proofs.YtekbhbcgoadciaaGreat.bZ;rw [fh ae]
      rw [e1] at h0 ⊢
      have:=hw.bZ a k ae hk
      rw [ha _ ae,ha a e];exact H.entv a k e hk h0
     ·obtain rfl:a=less.length:=by simp at hka;omega
      exfalso
      unfold Proofs.YtekbhbcgoadciaaGreat.bZ at h0
      rw [←hl,fH,fp hk] at h0
      omega
    ·by_cases e:a < less.length
     ·have:=hw.down a e
      rw [cC e,ha _ ae,ha a e];exact H.lessv a e
     ·obtain rfl:a=less.length:=by simp at hka;omega
      rw [dv,Int.toNat_natCast]
   have H2:=H1.set w1 (c:=c) (g:=g) (z:=less.length) (by simp;omega) hg (by rw [hn,ha c hc])
   have w2:=w1.gD (c:=c) (g:=g) (z:=(less.length:Int)) (by simp;omega) hg (by simp;omega)
   exact H2.set w2 (c:=less.length) (g:=g) (z:=c) (by simp) hg (by rw [hn,ha c hc,hinv g _ hg])
end
section
variable {X:Type} {ng:Nat} {f:Nat→X→X}
theorem AP (hinv:∀g x,g < ng→f g (f g x)=x) {n0:Nat} :∀(w:List Nat) (s:List (List Int)×List Int×Bool×Nat) (h:Nat→X),vW ng n0 s→tR ng f s.1 s.2.1 h→(∀g∈w,g < ng)→
  ∃h',tR ng f (ic ng s w).1 (ic ng s w).2.1 h'∧(∀a,a < s.2.1.length→h' a=h a)∧((ic ng s w).2.2.1=false→h' (ic ng s w).2.2.2=cS f (h s.2.2.2) w)
 | [],s,h,_,H,_=>⟨h,H,fun _ _=>rfl,fun _=>rfl⟩
 | g :: r,s,h,ok,H,hg=>by
  unfold ic
  split
  ·rename_i hf
   exact ⟨h,H,fun _ _=>rfl,fun h0=>by rw [hf] at h0;cases h0⟩
  ·obtain ⟨h1,H1,a1,v1⟩:=H.next hinv ok.wf ok.d (hg g (by simp))
   obtain ⟨k1,k2,k3,k4,_⟩:=gV ok.wf ok.d (hg g (by simp)) ok.hi
   obtain ⟨h2,H2,a2,v2⟩:=AP hinv (n0:=n0) r _ h1 ⟨k1,Nat.le_trans ok.lo k2,k3,k4⟩ H1 fun x hx=>hg x (by simp [hx])
   refine ⟨h2,H2,fun a ha=>(a2 a ae).trans (a1 a ha),fun hf=> ?_⟩
   have hf1:(ck ng s.1 s.2.1 s.2.2.2 g).2.2.1=false:=by
    cases e:(ck ng s.1 s.2.1 s.2.2.2 g).2.2.1 with
    | false=>rfl
    | true=>rw [ij e] at hf;rw [e] at hf;cases hf
   rw [v2 hf,v1 hf1];rfl
theorem qH {lo hi:Nat} {im:List (List Int)} {less:List Int} {q:List (Int×Int)} {h:Nat→X} (hw:WF ng im less) (H:tR ng f im less h) (hlo:lo < im.length) (hhi:hi < im.length) (hq:nj less.length q) (he:h lo=h hi) (hp:∀p∈q,h p.1.toNat=h p.2.toNat):
  ∀g,g≤ng→tR ng f (bH lo hi (im,q) g).1 less h∧∀p∈(bH lo hi (im,q) g).2,h p.1.toNat=h p.2.toNat
 | 0,_=>⟨H,hp⟩
 | g + 1,hg=>by
  obtain ⟨H1,p1⟩:=qH hw H hlo hhi hq he hp g ae
  obtain ⟨w1,_,_,w4⟩:=eP hw hlo hhi hq g ae
  have hl:=hw.len
  simp only [bH,stepG]
  split
  ·exact ⟨H1,p1⟩
  ·rename_i hn
   have e1:=w1.bZ hi g ae ae
   have v1:=H1.entv hi g ae ae ae
   split
   ·rename_i hpos
    refine ⟨H1,fun p hp'=> ?_⟩
    rcases List.mem_append.1 hp' with h5 | h5
    ·exact p1 p h5
    ·simp at h5;subst h5
     dsimp only
     rw [v1,H1.entv lo g ae ae hpos,he]
   ·refine ⟨?_,p1⟩
    have hz:bZ (bH lo hi (im,q) g).1 hi g=(((bZ (bH lo hi (im,q) g).1 hi g).toNat:Nat):Int):=by omega
    have:=H1.set w1 (c:=lo) (g:=g) (z:=(bZ (bH lo hi (im,q) g).1 hi g).toNat) ae ae (by rw [v1,he])
    rw [←hz] at this
    exact this
theorem iD {h:Nat→X} {n:Nat} :∀(k:Nat) (im:List (List Int)) (less:List Int) (q:List (Int×Int)),WF ng im less→less.length=n→nj n q→tR ng f im less h→(∀p∈q,h p.1.toNat=h p.2.toNat)→tR ng f (cP ng k im less q).1 (cP ng k im less q).2 h
 | 0,im,less,q,_,_,_,H,_=>H
 | k + 1,im,less, [],_,_,_,H,_=>H
 | k + 1,im,less,p :: q,hw,hn,hq,H,hp=>by
  have hpp:=hq p (by simp)
  have hq':nj less.length q:=fun x hx=>hn ▸ hq x (by simp [hx])
  have hr1:=de hw.down (c:=p.1.toNat) ae
  have hr2:=de hw.down (c:=p.2.toNat) ae
  have v1:=H.root hw.down p.1.toNat ae
  have v2:=H.root hw.down p.2.toNat ae
  have v3:=hp p (by simp)
  simp only [cP]
  split
  ·exact iD k im less q hw hn (fun x hx=>hq x (by simp [hx])) H fun x hx=>hp x (by simp [hx])
  ·rename_i hne
   have hl:=hw.len
   have hlh:h (min (root less p.1.toNat) (root less p.2.toNat))=h (max (root less p.1.toNat) (root less p.2.toNat)):=by
    rcases Nat.le_total (root less p.1.toNat) (root less p.2.toNat) with h5 | h5
    ·rw [Nat.min_eq_left h5,Nat.max_eq_right h5,v1,v2,v3]
    ·rw [Nat.min_eq_right h5,Nat.max_eq_left h5,v1,v2,v3]
   obtain ⟨w1,w2,w3,w4⟩:=eP hw (lo:=min (root less p.1.toNat) (root less p.2.toNat)) (hi:=max (root less p.1.toNat) (root less p.2.toNat)) (by rw [hw.len];omega) (by rw [hw.len];omega) hq' ng (Nat.le_refl _)
   obtain ⟨H1,p1⟩:=qH hw H (lo:=min (root less p.1.toNat) (root less p.2.toNat)) (hi:=max (root less p.1.toNat) (root less p.2.toNat)) (by rw [hw.len];omega) (by rw [hw.len];omega) hq' hlh (fun x hx=>hp x (by simp [hx])) ng (Nat.le_refl _)
   refine iD k _ _ _ (w1.kJ ae) (by rw [List.length_set];exact hn) (hn ▸ w2) ⟨fun c g hc=>H1.entv c g (by rwa [List.length_set] at hc),fun c hc=> ?_⟩ p1
   rw [List.length_set] at hc
   rw [cK]
   split
   ·rename_i e;rw [Int.toNat_natCast,hlh,e.1]
   ·exact H1.lessv c hc
theorem su (hinv:∀g x,g < ng→f g (f g x)=x) {im:List (List Int)} {less:List Int} {h:Nat→X} {c:Nat} {w:List Nat} (hw:WF ng im less) (H:tR ng f im less h) (hc:c < less.length) (hn:less.length≤2000) (hg:∀g∈w,g < ng) (hcl:cS f (h c) w=h c):
  ∃h',tR ng f (db ng im less c w).1 (db ng im less c w).2.1 h'∧∀a,a < less.length→h' a=h a:=by
 unfold db
 cases hlast:w.getLast? with
 | none=>exact ⟨h,H,fun _ _=>rfl⟩
 | some g=>
  have hgl:g < ng:=hg g (List.mem_of_getLast? hlast)
  have ok:=nE (n0:=less.length) w.dropLast (im,less,false,c) ⟨hw,Nat.le_refl _,hn,hc⟩ fun x hx=>hg x (List.dropLast_subset _ hx)
  obtain ⟨h1,H1,a1,v1⟩:=AP hinv (n0:=less.length) w.dropLast (im,less,false,c) h ⟨hw,Nat.le_refl _,hn,hc⟩ H fun x hx=>hg x (List.dropLast_subset _ hx)
  have hww:w=w.dropLast ++ [g]:=by
   obtain ⟨ys,rfl⟩:=List.getLast?_eq_some_iff.1 hlast
   simp
  generalize ic ng (im,less,false,c) w.dropLast=s at *
  have hcs:c < s.2.1.length:=Nat.lt_of_lt_of_le hc ok.lo
  dsimp only at a1 v1 ⊢
  split
  ·exact ⟨h1,H1,a1⟩
  ·rename_i hf
   have vd:f g (h1 s.2.2.2)=h1 c:=by
    rw [v1 (by simpa using hf),a1 c hc]
    have:=hcl
    rw [hww] at this
    unfold cS at this
    rw [List.foldl_append] at this
    exact this
   have e1:=eL ok.wf ok.d hgl
   have e2:=eL ok.wf hcs hgl
   have hd:=ok.d
   split
   ·rename_i he
    refine ⟨h1,iD _ _ _ _ ok.wf rfl (fun p hp=>by simp at hp;subst hp;exact ⟨⟨he,e1⟩,ae,by dsimp only;omega⟩) H1 (fun p hp=>by simp at hp;subst hp;dsimp only;rw [Int.toNat_natCast,H1.AW ok.wf ok.d hgl he,vd]),a1⟩
   ·split
    ·rename_i hf2
     refine ⟨h1,iD _ _ _ _ ok.wf rfl (fun p hp=>by simp at hp;subst hp;exact ⟨⟨hf2,e2⟩,ae,by dsimp only;omega⟩) H1 (fun p hp=>by simp at hp;subst hp;dsimp only;rw [Int.toNat_natCast,H1.AW ok.wf hcs hgl hf2,←vd,hinv g _ hgl]),a1⟩
    ·have k1:=ok.wf.gD (c:=s.2.2.2) (g:=g) (z:=(c:Int)) (by rw [ok.wf.len];exact hd) hgl ae
     exact ⟨h1,(H1.set ok.wf hd hgl vd.symm).set k1 hcs hgl (by rw [←vd,hinv g _ hgl]),a1⟩
def oN (ng:Nat) (f:Nat→X→X) (x0:X) (n:Nat) (s:dR):Prop:=cD ng n s∧∃h,tR ng f s.1 s.2.1 h∧h 0=x0
theorem zw (hinv:∀g x,g < ng→f g (f g x)=x) {x0:X} {n:Nat} {s:dR} {w:List Int} (h:oN ng f x0 n s) (hn:0 < n) (hw:bB ng w∧cS f x0 (w.map Int.toNat)=x0):oN ng f x0 n (dD ng s w):=by
 refine ⟨kF h.1 hn hw.1, ?_⟩
 obtain ⟨h0,H,e0⟩:=h.2
 have hl:0 < s.2.1.length:=Nat.lt_of_lt_of_le hn h.1.lo
 unfold dD
 split
 ·exact ⟨h0,H,e0⟩
 ·obtain ⟨h1,H1,a1⟩:=su hinv h.1.wf H hl h.1.hi hw.1.nat (by rw [e0];exact hw.2)
  exact ⟨h1,H1,(a1 0 hl).trans e0⟩
theorem zo (hinv:∀g x,g < ng→f g (f g x)=x) {x0:X} {n c:Nat} {s:dR} {w:List Int} (h:oN ng f x0 n s) (hn:c < n) (hw:bB ng w∧∀x,cS f x (w.map Int.toNat)=x):oN ng f x0 n (c9 ng c s w):=by
 refine ⟨jo h.1 hn hw.1, ?_⟩
 obtain ⟨h0,H,e0⟩:=h.2
 have hl:c < s.2.1.length:=Nat.lt_of_lt_of_le hn h.1.lo
 unfold c9
 split
 ·obtain ⟨h1,H1,a1⟩:=su hinv h.1.wf H hl h.1.hi hw.1.nat (hw.2 _)
  exact ⟨h1,H1,(a1 0 ae).trans e0⟩
 ·exact ⟨h0,H,e0⟩
theorem CD (hinv:∀g x,g < ng→f g (f g x)=x) {x0:X} {n c g:Nat} {s:dR} (h:oN ng f x0 n s) (hn:c < n) (hg:g < ng):oN ng f x0 n (dm ng c s g):=by
 refine ⟨kM h.1 hn hg, ?_⟩
 obtain ⟨h0,H,e0⟩:=h.2
 have hl:c < s.2.1.length:=Nat.lt_of_lt_of_le hn h.1.lo
 unfold dm
 split
 ·obtain ⟨h1,H1,a1,_⟩:=H.next hinv h.1.wf hl hg
  exact ⟨h1,H1,(a1 0 ae).trans e0⟩
 ·exact ⟨h0,H,e0⟩
theorem foldl_hom {α:Type} {x0:X} {n:Nat} {k:dR→α→dR} {p:α→Prop} (hf:∀s x,oN ng f x0 n s→p x→oN ng f x0 n (k s x)):∀(l:List α) (s:dR),oN ng f x0 n s→(∀x∈l,p x)→oN ng f x0 n (l.foldl k s)
 | [],s,h,_=>h
 | x :: r,s,h,hp=>foldl_hom hf r _ (hf s x h (hp x (by simp))) fun y hy=>hp y (by simp [hy])
theorem u4 (hinv:∀g x,g < ng→f g (f g x)=x) {x0:X} {n:Nat} {rels:List (List Int)} (hr:∀w∈rels,bB ng w∧∀x,cS f x (w.map Int.toNat)=x):∀(k c:Nat) (s:dR),oN ng f x0 n s→oN ng f x0 n (outer ng rels k c s)
 | 0,_,s,h=>h
 | k + 1,c,s,h=>by
  unfold outer
  split
  ·rename_i hc
   have h':oN ng f x0 s.2.1.length s:=⟨⟨h.1.wf,Nat.le_refl _,h.1.hi⟩,h.2⟩
   have:=foldl_hom (p:=fun g=>g < ng) (fun s g h hg=>CD hinv h hc.1 hg) (List.range ng) _ (foldl_hom (p:=fun w=>bB ng w∧∀x,cS f x (w.map Int.toNat)=x) (fun s w h hw=>zo hinv h hc.1 hw) _ _ h' hr) fun g hg=>List.mem_range.1 hg
   exact u4 hinv hr k _ _ ⟨this.1.le h.1.lo,this.2⟩
  ·exact h
theorem D5 (hinv:∀g x,g < ng→f g (f g x)=x) {x0:X} {rels words:List (List Int)} (hr:∀w∈rels,bB ng w∧∀x,cS f x (w.map Int.toNat)=x) (hw:∀w∈words,bB ng w∧cS f x0 (w.map Int.toNat)=x0):oN ng f x0 1 (cm ng rels words):=
 u4 hinv hr _ _ _ (foldl_hom (p:=fun w=>bB ng w∧cS f x0 (w.map Int.toNat)=x0) (fun s w h hw=>zw hinv h ae hw) _ _ ⟨jm ng,fun _=>x0,⟨fun _ _ _ _ _=>rfl.trans (by
  rename_i c g hc hg h0
  exfalso
  obtain rfl:c=0:=by simp [dG] at hc;omega
  simp [dG,bZ,bn,aC,hg] at h0),fun _ _=>rfl⟩,rfl⟩ hw)
end
end Go.Proofs.YtekbhbcgoadciaaGreat
namespace Go.Proofs.YtekbhbcgoadciaaGreat
inductive RT where
 | l (n:Nat)
 | n (a b:RT)
def RT.row:RT→Nat→Nat
 | .l k,_=>k
 | .n a b,d=>match d % 2 with
  | 0=>a.row (d / 2)
  | _=>b.row (d / 2)
structure Lv where
 N:Nat
 W:Nat
 T:RT
def ev (L:Lv) (d g:Nat):Nat:=(L.T.row d >>> (L.W * g)) % 2 ^ L.W
def tf:List Lv→Nat→List Nat→List Nat
 | L :: r,g,d :: u=>if ev L d g < L.N then ev L d g :: u else d :: tf r (ev L d g - L.N) u
 | _,_,x=>x
def fq:List Lv→List Nat→Bool
 | [], []=>true
 | L :: r,d :: u=>decide (d < L.N) && fq r u
 | _,_=>false
def iV (i j:Nat):Nat→List Nat
 | 0=> []
 | m + 1=>i :: j :: iV i j m
def tF (L:Lv):List Nat→Nat→Nat×List Nat
 | [],d=>(d, [])
 | g :: w,d=>if ev L d g < L.N then tF L w (ev L d g) else ((tF L w d).1,(ev L d g - L.N) :: (tF L w d).2)
def AY (lb:Nat→Nat→Nat) (k:Nat):List Nat→Bool
 | []=>true
 | [s,t]=>s == t && Nat.blt s k
 | s :: t :: E=>Nat.blt s k && (Nat.blt t k && (s != t && (s :: t :: E == iV s t (lb s t))))
 | _=>false
def Kc (lb:Nat→Nat→Nat) (k:Nat) (L:Lv):Bool:=
 (List.range L.N).all fun d=>(List.range (k + 1)).all fun g=>
  (if ev L d g < L.N then ev L (ev L d g) g == d && ev L d g != d else Nat.blt (ev L d g - L.N) k)
  && (List.range (k + 1)).all fun j=>g == j || ((tF L (iV g j (lb g j)) d).1 == d && AY lb k (tF L (iV g j (lb g j)) d).2)
def zI (lb:Nat→Nat→Nat):List Lv→Bool
 | []=>true
 | L :: r=>Kc lb r.length L && zI lb r
theorem sU (L:Lv) (r:List Lv):∀(w:List Nat) (d:Nat) (u:List Nat),cS (tf (L :: r)) (d :: u) w=(tF L w d).1 :: cS (tf r) u (tF L w d).2
 | [],d,u=>rfl
 | g :: w,d,u=>by
  show cS (tf (L :: r)) (tf (L :: r) g (d :: u)) w=_
  rw [tf,tF]
  split
  ·exact sU L r w _ u
  ·rw [sU L r w d _];rfl
theorem dH {n:Nat} {p:Nat→Bool} :(List.range n).all p=true↔∀d,d < n→p d=true:=by
 rw [List.all_eq_true];exact ⟨fun h d hd=>h d (List.mem_range.2 hd),fun h d hd=>h d (List.mem_range.1 hd)⟩
structure Ca (lb:Nat→Nat→Nat) (tw:List Lv):Prop where
 ok:∀g u,g < tw.length→fq tw u=true→fq tw (tf tw g u)=true
 inv:∀g u,g < tw.length→fq tw u=true→tf tw g (tf tw g u)=u
 rel:∀i j u,i < tw.length→j < tw.length→i≠j→fq tw u=true→cS (tf tw) u (iV i j (lb i j))=u
theorem gZ {lb:Nat→Nat→Nat} {k:Nat} {L:Lv} (h:Kc lb k L=true) {d g:Nat} (hd:d < L.N) (hg:g < k + 1):
  (ev L d g < L.N→ev L (ev L d g) g=d∧ev L d g≠d)∧(¬ev L d g < L.N→ev L d g - L.N < k)∧∀j,j < k + 1→g≠j→(tF L (iV g j (lb g j)) d).1=d∧AY lb k (tF L (iV g j (lb g j)) d).2=true:=by
 have h1:=dH.1 (dH.1 h d hd) g hg
 rw [Bool.and_eq_true] at h1
 refine ⟨fun hl=> ?_,fun hl=> ?_,fun j hj hne=> ?_⟩
 ·have:=h1.1;rw [if_pos hl,Bool.and_eq_true] at this;exact ⟨by simpa using this.1,by simpa using this.2⟩
 ·have:=h1.1;rw [if_neg hl] at this;simpa [Nat.blt_eq] using this
 ·have:=dH.1 h1.2 j hj
  rw [Bool.or_eq_true,Bool.and_eq_true] at this
  rcases this with h2 | h2
  ·exact absurd (by simpa using h2) hne
  ·exact ⟨by simpa using h2.1,h2.2⟩
theorem iU {tw:List Lv} (ok:∀g u,g < tw.length→fq tw u=true→fq tw (tf tw g u)=true):∀(w:List Nat) (u:List Nat),(∀g∈w,g < tw.length)→fq tw u=true→fq tw (cS (tf tw) u w)=true
 | [],u,_,h=>h
 | g :: w,u,hw,h=>iU ok w _ (fun x hx=>hw x (by simp [hx])) (ok g u (hw g (by simp)) h)
theorem ES {lb:Nat→Nat→Nat} {tw:List Lv} (H:Ca lb tw) {E:List Nat} (h:AY lb tw.length E=true) {u:List Nat} (hu:fq tw u=true):cS (tf tw) u E=u:=by
 unfold AY at h
 split at h
 ·rfl
 ·rename_i s t
  rw [Bool.and_eq_true] at h
  have h1:s=t:=by simpa using h.1
  have h2:s < tw.length:=by simpa [Nat.blt_eq] using h.2
  subst h1
  exact H.inv s u h2 hu
 ·rename_i s t E _
  simp only [Bool.and_eq_true] at h
  obtain ⟨h1,h2,h3,h4⟩:=h
  rw [eq_of_beq h4]
  exact H.rel s t u (by simpa [Nat.blt_eq] using h1) (by simpa [Nat.blt_eq] using h2) (by simpa using h3) hu
 ·cases h
theorem kq {lb:Nat→Nat→Nat} :∀(tw:List Lv),zI lb tw=true→Ca lb tw
 | [],_=>⟨fun g u hg=>by simp at hg,fun g u hg=>by simp at hg,fun i j u hi=>by simp at hi⟩
 | L :: r,h=>by
  rw [zI,Bool.and_eq_true] at h
  have ih:=kq r h.2
  refine ⟨fun g u hg hu=> ?_,fun g u hg hu=> ?_,fun i j u hi hj hij hu=> ?_⟩
  ·match u,hu with
   | [],hu=>cases hu
   | d :: u,hu=>
    rw [fq,Bool.and_eq_true] at hu
    have hd:d < L.N:=by simpa using hu.1
    obtain ⟨s1,s2,_⟩:=gZ h.1 hd hg
    rw [tf]
    split
    ·rename_i hl;rw [fq,Bool.and_eq_true];exact ⟨by simpa using hl,hu.2⟩
    ·rename_i hl;rw [fq,Bool.and_eq_true];exact ⟨hu.1,ih.ok _ u (s2 hl) hu.2⟩
  ·match u,hu with
   | [],hu=>cases hu
   | d :: u,hu=>
    rw [fq,Bool.and_eq_true] at hu
    have hd:d < L.N:=by simpa using hu.1
    obtain ⟨s1,s2,_⟩:=gZ h.1 hd hg
    by_cases hl:ev L d g < L.N
    ·have e:tf (L :: r) g (d :: u)=ev L d g :: u:=by rw [tf,if_pos hl]
     rw [e,tf,(s1 hl).1,if_pos hd]
    ·have e:tf (L :: r) g (d :: u)=d :: tf r (ev L d g - L.N) u:=by rw [tf,if_neg hl]
     rw [e,tf,if_neg hl,ih.inv _ u (s2 hl) hu.2]
  ·match u,hu with
   | [],hu=>cases hu
   | d :: u,hu=>
    rw [fq,Bool.and_eq_true] at hu
    have hd:d < L.N:=by simpa using hu.1
    obtain ⟨_,_,s3⟩:=gZ h.1 hd hi
    obtain ⟨r1,r2⟩:=s3 j hj hij
    rw [sU,r1,ES ih r2 hu.2]
structure A9 {Y:Type} (lb:Nat→Nat→Nat) (n:Nat) (F:Nat→Y→Y):Prop where
 inv:∀g y,g < n→F g (F g y)=y
 rel:∀i j y,i < n→j < n→i≠j→cS F y (iV i j (lb i j))=y
def par (L:Lv) (d:Nat):Nat:=((List.range 5).find? fun g=>Nat.blt (ev L d g) d).getD 0
def runK (L:Lv) (d t:Nat):List Nat→Nat→Option (Nat×List Nat)
 | [],c=>some (c, [])
 | g :: w,c=>
  if ev L c g < L.N then
   (if (g=t∧c≤d∧ev L c g≤d)∨(c < d∧ev L c g < d) then runK L d t w (ev L c g) else none)
  else (if c < d then (runK L d t w c).map fun p=>(p.1,(ev L c g - L.N) :: p.2) else none)
def vw (t g:Nat) (m:Nat):List Nat:=(iV t g m).dropLast
def G8 (lb:Nat→Nat→Nat) (k:Nat) (L:Lv):Bool:=
 Nat.blt 0 L.N && (Nat.blt (ev L 0 k) L.N && ((List.range k).all (fun g=>ev L 0 g == L.N + g) && (List.range L.N).all fun d=>d == 0 || (Nat.blt (ev L d (par L d)) d && (Nat.blt (par L d) (k + 1) && (List.range (k + 1)).all fun g=>
  g == par L d || (if ev L d g < L.N then (Nat.blt d (ev L d g) || runK L d (par L d) (vw (par L d) g (lb (par L d) g)) d == some (ev L d g, []))
   else runK L d (par L d) (vw (par L d) g (lb (par L d) g)) d == some (d, [ev L d g - L.N]))))))
def m6 (lb:Nat→Nat→Nat):List Lv→Bool
 | []=>true
 | L :: r=>G8 lb r.length L && m6 lb r
section
variable {Y:Type} (F:Nat→Y→Y)
def EF (L:Lv) (y:Y) (d:Nat):Y:=if _h:ev L d (par L d) < d then F (par L d) (EF L y (ev L d (par L d))) else y
termination_by d
def nW (y0:Y):List Lv→List Nat→Y
 | L :: r,d :: u=>EF F L (nW y0 r u) d
 | _,_=>y0
end
theorem oH {Y:Type} (F:Nat→Y→Y) (L:Lv) (y:Y):EF F L y 0=y:=by rw [EF,dif_neg ae]
theorem Bd {Y:Type} {F:Nat→Y→Y} {L:Lv} {y:Y} {d:Nat} (h:ev L d (par L d) < d):EF F L y d=F (par L d) (EF F L y (ev L d (par L d))):=by
 rw [EF,dif_pos h]
theorem iP {X:Type} (f:Nat→X→X) (x:X) (v w:List Nat):cS f x (v ++ w)=cS f (cS f x v) w:=List.foldl_append
theorem ux (t g:Nat):∀m,0 < m→iV t g m=vw t g m ++ [g]
 | 0,h=>absurd h ae
 | 1,_=>rfl
 | m + 2,_=>by
  have ih:=ux t g (m + 1) ae
  show t :: g :: iV t g (m + 1)=vw t g (m + 2) ++ [g]
  have e:vw t g (m + 2)=t :: g :: vw t g (m + 1):=rfl
  rw [e,ih];rfl
theorem AO {Y:Type} {F:Nat→Y→Y} {lb:Nat→Nat→Nat} {n:Nat} {y0:Y} (hl:∀i j,0 < lb i j) (A:A9 lb n F):∀(tw:List Lv),tw.length≤n→zI lb tw=true→m6 lb tw=true→
  ∀g u,g < tw.length→fq tw u=true→F g (nW F y0 tw u)=nW F y0 tw (tf tw g u)
 | [],_,_,_=>fun g u hg=>by simp at hg
 | L :: r,hn,h,hu=>by
  have H:=kq _ h
  rw [zI,Bool.and_eq_true] at h
  rw [m6,Bool.and_eq_true] at hu
  have hn':r.length + 1≤n:=hn
  have Hr:=kq r h.2
  have ih:=AO (y0:=y0) hl A r ae h.2 hu.2
  have hub:=hu.1
  unfold G8 at hub
  simp only [Bool.and_eq_true] at hub
  obtain ⟨hN,hk0,hz,hd⟩:=hub
  have hk0:ev L 0 r.length < L.N:=by simpa [Nat.blt_eq] using hk0
  have hN:0 < L.N:=by simpa [Nat.blt_eq] using hN
  have Q:∀d,d < L.N→∀g u,g < r.length + 1→fq r u=true→(¬ev L d g < L.N∨ev L d g < d)→F g (nW F y0 (L :: r) (d :: u))=nW F y0 (L :: r) (tf (L :: r) g (d :: u)):=by
   intro d
   induction d using Nat.strongRecOn with
   | _ d IH=>
    intro hdN g u hg hok he
    by_cases d0:d=0
    ·subst d0
     have hnl:¬ev L 0 g < L.N:=by
      rcases he with he | he
      ·exact he
      ·omega
     obtain ⟨_,s2,_⟩:=gZ h.1 hN hg
     by_cases hgk:g < r.length
     ·have e:=dH.1 hz g hgk
      have e:ev L 0 g=L.N + g:=by simpa using e
      have e2:tf (L :: r) g (0 :: u)=0 :: tf r g u:=by rw [tf,if_neg hnl,e,Nat.add_sub_cancel_left]
      rw [e2]
      show F g (EF F L (nW F y0 r u) 0)=EF F L (nW F y0 r (tf r g u)) 0
      rw [oH,oH]
      exact ih g u hgk hok
     ·obtain rfl:g=r.length:=by omega
      exact absurd hk0 hnl
    ·have hdd:=dH.1 hd d hdN
     rw [Bool.or_eq_true] at hdd
     rcases hdd with hdd | hdd
     ·exact absurd (by simpa using hdd) d0
     simp only [Bool.and_eq_true] at hdd
     obtain ⟨ht,htk,hgs⟩:=hdd
     have ht:ev L d (par L d) < d:=by simpa [Nat.blt_eq] using ht
     have htk:par L d < r.length + 1:=by simpa [Nat.blt_eq] using htk
     have hpos:∀v,nW F y0 (L :: r) (d :: v)=F (par L d) (nW F y0 (L :: r) (ev L d (par L d) :: v)):=fun v=>Bd ht
     generalize htt:par L d=t at *
     by_cases hgt:g=t
     ·subst hgt
      have e:tf (L :: r) g (d :: u)=ev L d g :: u:=by rw [tf,if_pos ae]
      rw [e,hpos,A.inv _ _ ae]
     ·
      have inv1:∀g y,g < r.length + 1→F g (F g y)=y:=fun g y hg=>A.inv g y ae
      have run:∀(w:List Nat) (c:Nat) (v:List Nat) (p:Nat×List Nat),c < L.N→fq r v=true→(∀x∈w,x < r.length + 1)→runK L d t w c=some p→cS F (nW F y0 (L :: r) (c :: v)) w=nW F y0 (L :: r) (p.1 :: cS (tf r) v p.2):=by
       intro w
       induction w with
       | nil=>intro c v p _ _ _ hp;rw [runK] at hp;obtain rfl:=Option.some.inj hp;rfl
       | cons x w ihw=>
        intro c v p hc hv hw hp
        have hx:=hw x (by simp)
        have hw':∀y∈w,y < r.length + 1:=fun y hy=>hw y (by simp [hy])
        obtain ⟨s1,s2,_⟩:=gZ h.1 hc hx
        rw [runK] at hp
        show cS F (F x (nW F y0 (L :: r) (c :: v))) w=_
        split at hp
        ·rename_i hlt
         split at hp
         ·rename_i hk
          have step:F x (nW F y0 (L :: r) (c :: v))=nW F y0 (L :: r) (ev L c x :: v):=by
           have low:c < d→ev L c x < d→F x (nW F y0 (L :: r) (c :: v))=nW F y0 (L :: r) (ev L c x :: v):=fun h1 h2=>by
            rcases Nat.lt_trichotomy (ev L c x) c with h3 | h3 | h3
            ·have:=IH c h1 hc x v hx hv (.inr h3)
             rw [this,tf,if_pos hlt]
            ·exact absurd h3 (s1 hlt).2
            ·have:=IH (ev L c x) h2 hlt x v hx hv (.inr (by rw [(s1 hlt).1];exact h3))
             have e2:tf (L :: r) x (ev L c x :: v)=c :: v:=by rw [tf,(s1 hlt).1,if_pos hc]
             rw [e2] at this
             rw [←this,inv1 x _ hx]
           rcases hk with ⟨k1,k2,k3⟩ | ⟨k1,k2⟩
           ·subst k1
            by_cases hcd:c=d
            ·subst hcd
             rw [hpos,inv1 x _ hx]
            ·by_cases hed:ev L c x=d
             ·rw [hed,hpos]
              have:=(s1 hlt).1
              rw [hed] at this
              rw [this]
             ·exact low ae ae
           ·exact low k1 k2
          rw [step]
          exact ihw _ v p hlt hv hw' hp
         ·cases hp
        ·rename_i hnl
         split at hp
         ·rename_i hcd
          cases hq:runK L d t w c with
          | none=>rw [hq] at hp;cases hp
          | some q=>
           rw [hq] at hp
           obtain rfl:=Option.some.inj hp
           have:=IH c hcd hc x v hx hv (.inl hnl)
           rw [this,tf,if_neg hnl]
           exact ihw c _ q hc (Hr.ok _ v (s2 hnl) hv) hw' hq
         ·cases hp
      have hlb:=hl t g
      have hrel:=A.rel t g (nW F y0 (L :: r) (d :: u)) ae ae (fun e=>hgt e.symm)
      rw [ux t g _ hlb,iP] at hrel
      have hlet:∀x∈vw t g (lb t g),x < r.length + 1:=by
       have hal:∀m,∀x∈iV t g m,x < r.length + 1:=by
        intro m
        induction m with
        | zero=>intro x hx;simp [iV] at hx
        | succ m ihm=>
         intro x hx
         simp [iV] at hx
         rcases hx with rfl | rfl | hx
         ·exact htk
         ·exact hg
         ·exact ihm x hx
       intro x hx
       exact hal _ x (List.dropLast_subset _ hx)
      have hback:cS F (nW F y0 (L :: r) (d :: u)) (vw t g (lb t g))=F g (nW F y0 (L :: r) (d :: u)):=by
       have h1:F g (cS F (nW F y0 (L :: r) (d :: u)) (vw t g (lb t g)))=nW F y0 (L :: r) (d :: u):=hrel
       rw [←h1,inv1 g _ hg,h1]
      have hgg:=dH.1 hgs g hg
      rw [Bool.or_eq_true] at hgg
      rcases hgg with hgg | hgg
      ·exact absurd (by simpa using hgg) hgt
      by_cases hlt:ev L d g < L.N
      ·rw [if_pos hlt,Bool.or_eq_true] at hgg
       rcases hgg with hgg | hgg
       ·have:d < ev L d g:=by simpa [Nat.blt_eq] using hgg
        rcases he with he | he
        ·exact absurd hlt he
        ·omega
       ·have:=run _ d u _ hdN hok hlet (eq_of_beq hgg)
        rw [hback] at this
        rw [this,tf,if_pos hlt];rfl
      ·rw [if_neg hlt] at hgg
       have:=run _ d u _ hdN hok hlet (eq_of_beq hgg)
       rw [hback] at this
       rw [this,tf,if_neg hlt];rfl
  intro g x hg hx
  match x,hx with
  | [],hx=>cases hx
  | d :: u,hx=>
   rw [fq,Bool.and_eq_true] at hx
   have hdN:d < L.N:=by simpa using hx.1
   obtain ⟨s1,s2,_⟩:=gZ h.1 hdN hg
   by_cases hlt:ev L d g < L.N
   ·rcases Nat.lt_trichotomy (ev L d g) d with h3 | h3 | h3
    ·exact Q d hdN g u hg hx.2 (.inr h3)
    ·exact absurd h3 (s1 hlt).2
    ·have:=Q (ev L d g) hlt g u hg hx.2 (.inr (by rw [(s1 hlt).1];exact h3))
     have e2:tf (L :: r) g (ev L d g :: u)=d :: u:=by rw [tf,(s1 hlt).1,if_pos hdN]
     have e3:tf (L :: r) g (d :: u)=ev L d g :: u:=by rw [tf,if_pos hlt]
     rw [e2] at this
     rw [←this,A.inv _ _ ae,e3]
   ·exact Q d hdN g u hg hx.2 (.inl hlt)
end Go.Proofs.YtekbhbcgoadciaaGreat
namespace Go.Proofs.YtekbhbcgoadciaaGreat
def dQ:List Lv→Nat
 | []=>1
 | L :: r=>L.N * dQ r
def ji:List Lv→Nat→List Nat
 | [],_=> []
 | L :: r,x=>x % L.N :: ji r (x / L.N)
def m0:List Lv→List Nat→Nat
 | L :: r,d :: u=>d + L.N * m0 r u
 | _,_=>0
def dM:List Lv→List Nat
 | []=> []
 | _ :: r=>0 :: dM r
def ta (tw:List Lv) (g:Nat) (x:List Nat):List Nat:=if fq tw x=true∧g < tw.length then tf tw g x else x
theorem rk:∀(tw:List Lv) (x:List Nat),fq tw x=true→m0 tw x < dQ tw
 | [],x,h=>by cases x with
  | nil=>decide
  | cons _ _=>cases h
 | L :: r,x,h=>by
  match x,h with
  | [],h=>cases h
  | d :: u,h=>
   rw [fq,Bool.and_eq_true] at h
   have h1:d < L.N:=by simpa using h.1
   have h2:=rk r u h.2
   rw [m0,dQ]
   calc d + L.N * m0 r u < L.N + L.N * m0 r u:=by omega
    _=L.N * (m0 r u + 1):=by rw [Nat.mul_add];omega
    _≤L.N * dQ r:=Nat.mul_le_mul_left _ h2
theorem ld:∀(tw:List Lv) (x:List Nat),fq tw x=true→ji tw (m0 tw x)=x
 | [],x,h=>by cases x with
  | nil=>rfl
  | cons _ _=>cases h
 | L :: r,x,h=>by
  match x,h with
  | [],h=>cases h
  | d :: u,h=>
   rw [fq,Bool.and_eq_true] at h
   have h1:d < L.N:=by simpa using h.1
   rw [m0,ji,Nat.add_mul_mod_self_left,Nat.mod_eq_of_lt h1,Nat.add_mul_div_left _ _ ae,Nat.div_eq_of_lt h1,Nat.zero_add,ld r u h.2]
theorem pD:∀(tw:List Lv) (x:Nat),(∀L∈tw,0 < L.N)→fq tw (ji tw x)=true
 | [],x,_=>rfl
 | L :: r,x,h=>by
  rw [ji,fq,Bool.and_eq_true]
  exact ⟨decide_eq_true (Nat.mod_lt _ (h L (by simp))),pD r _ fun M hM=>h M (by simp [hM])⟩
theorem oV:∀(tw:List Lv) (x:Nat),x < dQ tw→m0 tw (ji tw x)=x
 | [],x,h=>by have h:x < 1:=h;show 0=x;omega
 | L :: r,x,h=>by
  rw [dQ] at h
  rw [ji,m0,oV r (x / L.N) (Nat.div_lt_of_lt_mul h),Nat.mod_add_div]
theorem jR {lb:Nat→Nat→Nat} :∀(tw:List Lv),m6 lb tw=true→∀L∈tw,0 < L.N
 | [],_=>fun L h=>nomatch h
 | M :: r,h=>fun L hL=>by
  rw [m6,Bool.and_eq_true] at h
  rcases List.mem_cons.1 hL with rfl | hL
  ·have:=h.1;unfold G8 at this
   rw [Bool.and_eq_true] at this
   simpa [Nat.blt_eq] using this.1
  ·exact jR r h.2 L hL
theorem Bj:∀(tw:List Lv),(∀L∈tw,0 < L.N)→fq tw (dM tw)=true
 | [],_=>rfl
 | L :: r,h=>by
  rw [dM,fq,Bool.and_eq_true]
  exact ⟨decide_eq_true (h L (by simp)),Bj r fun M hM=>h M (by simp [hM])⟩
theorem Bf {lb:Nat→Nat→Nat} {tw:List Lv} (H:Ca lb tw) {g:Nat} {x:List Nat} (hg:g < tw.length) (hx:fq tw x=true):ta tw g x=tf tw g x∧fq tw (ta tw g x)=true:=by
 have:ta tw g x=tf tw g x:=by unfold ta;rw [if_pos ⟨hx,hg⟩]
 rw [this];exact ⟨rfl,H.ok g x hg hx⟩
theorem sR {lb:Nat→Nat→Nat} {tw:List Lv} (H:Ca lb tw):∀(w:List Nat) (x:List Nat),(∀g∈w,g < tw.length)→fq tw x=true→cS (ta tw) x w=cS (tf tw) x w∧fq tw (cS (ta tw) x w)=true
 | [],x,_,hx=>⟨rfl,hx⟩
 | g :: w,x,hw,hx=>by
  obtain ⟨e,h1⟩:=Bf H (hw g (by simp)) hx
  have ih:=sR H w (ta tw g x) (fun y hy=>hw y (by simp [hy])) h1
  show cS (ta tw) (ta tw g x) w=cS (tf tw) (tf tw g x) w∧fq tw (cS (ta tw) (ta tw g x) w)=true
  rw [←e];exact ih
theorem ER {tw:List Lv} {x:List Nat} (hx:¬fq tw x=true):∀(w:List Nat),cS (ta tw) x w=x
 | []=>rfl
 | g :: w=>by
  show cS (ta tw) (ta tw g x) w=x
  have:ta tw g x=x:=by unfold ta;rw [if_neg fun h=>hx h.1]
  rw [this];exact ER hx w
theorem vY {lb:Nat→Nat→Nat} {tw:List Lv} (H:Ca lb tw) (g:Nat) (x:List Nat):ta tw g (ta tw g x)=x:=by
 by_cases h:fq tw x=true∧g < tw.length
 ·obtain ⟨e,h1⟩:=Bf H h.2 h.1
  rw [(Bf H h.2 h1).1,e];exact H.inv g x h.2 h.1
 ·have e:ta tw g x=x:=by unfold ta;rw [if_neg h]
  rw [e,e]
theorem sL {i j:Nat} :∀ {m x:Nat},x∈iV i j m→x=i∨x=j
 | 0,x,h=>nomatch h
 | m + 1,x,h=>by
  rcases List.mem_cons.1 h with h | h
  ·exact .inl h
  rcases List.mem_cons.1 h with h | h
  ·exact .inr h
  ·exact sL h
theorem EH {lb:Nat→Nat→Nat} {tw:List Lv} (H:Ca lb tw):A9 lb tw.length (ta tw):=by
 refine ⟨fun g x _=>vY H g x,fun i j x hi hj hij=> ?_⟩
 by_cases hx:fq tw x=true
 ·rw [(sR H _ x (fun g hg=>by rcases sL hg with rfl | rfl<;>assumption) hx).1]
  exact H.rel i j x hi hj hij hx
 ·exact ER hx _
def Cr (L:Lv) (d:Nat):Nat:=L.T.row d >>> (L.W * 5)
def kD (I s:Nat):Bool:=s ||| I == I
def qj (I:Nat):List Lv→List Nat→Bool
 | L :: r,d :: u=>kD I (Cr L d) && qj I r u
 | _,_=>true
def Kh (k:Nat) (L:Lv):Bool:=
 (List.range L.N).all fun d=>(if Nat.blt 0 d then Cr L d == (Cr L (ev L d (par L d)) ||| 2 ^ par L d) else Cr L d == 0) && (List.range (k + 1)).all fun g=>
  if ev L d g < L.N then kD (Cr L d ||| 2 ^ g) (Cr L (ev L d g)) else kD (Cr L d ||| 2 ^ g) (2 ^ (ev L d g - L.N))
def oz:List Lv→Bool
 | []=>true
 | L :: r=>Kh r.length L && oz r
theorem uX {a b c:Nat} (h:kD b a=true) (k:kD c b=true):kD c a=true:=by
 have h:a ||| b=b:=by simpa [kD] using h
 have k:b ||| c=c:=by simpa [kD] using k
 have:a ||| c=c:=by rw [←k,←Nat.or_assoc,h]
 simpa [kD] using this
theorem wi {a b c:Nat} :kD c (a ||| b)=true↔kD c a=true∧kD c b=true:=by
 constructor
 ·intro h
  have h:a ||| b ||| c=c:=by simpa [kD] using h
  refine ⟨?_, ?_⟩
  ·have:a ||| c=c:=by rw [←h];simp only [←Nat.or_assoc,Nat.or_self]
   simpa [kD] using this
  ·have:b ||| c=c:=by rw [←h,←Nat.or_assoc,←Nat.or_assoc,Nat.or_comm b a,Nat.or_assoc a b b,Nat.or_self]
   simpa [kD] using this
 ·rintro ⟨h,k⟩
  have h:a ||| c=c:=by simpa [kD] using h
  have k:b ||| c=c:=by simpa [kD] using k
  have:a ||| b ||| c=c:=by rw [Nat.or_assoc,k,h]
  simpa [kD] using this
theorem Ej (c:Nat):kD c 0=true:=by simp [kD]
theorem oE {lb:Nat→Nat→Nat} {I:Nat} :∀(tw:List Lv),zI lb tw=true→oz tw=true→∀(g:Nat) (x:List Nat),g < tw.length→kD I (2 ^ g)=true→fq tw x=true→qj I tw x=true→qj I tw (tf tw g x)=true
 | [],_,_=>fun g x hg=>by simp at hg
 | L :: r,hB,h=>fun g x hg hI hx hs=>by
  rw [zI,Bool.and_eq_true] at hB
  match x,hx with
  | [],hx=>cases hx
  | d :: u,hx=>
   rw [fq,Bool.and_eq_true] at hx
   rw [oz,Bool.and_eq_true] at h
   rw [qj,Bool.and_eq_true] at hs
   have hd:d < L.N:=by simpa using hx.1
   have hb:=dH.1 (Bool.and_eq_true .. ▸ dH.1 h.1 d hd).2 g hg
   have hu:=wi.2 ⟨hs.1,hI⟩
   obtain ⟨_,s2,_⟩:=gZ hB.1 hd hg
   rw [tf]
   split
   ·rename_i hl
    rw [if_pos hl] at hb
    rw [qj,Bool.and_eq_true]
    exact ⟨uX hb hu,hs.2⟩
   ·rename_i hl
    rw [if_neg hl] at hb
    rw [qj,Bool.and_eq_true]
    exact ⟨hs.1,oE r hB.2 h.2 _ u (s2 hl) (uX hb hu) hx.2 hs.2⟩
theorem vf {k:Nat} {L:Lv} (h:Kh k L=true) {d:Nat} (hd:d < L.N):(d=0→Cr L d=0)∧(0 < d→Cr L d=(Cr L (ev L d (par L d)) ||| 2 ^ par L d)):=by
 have h1:=dH.1 h d hd
 rw [Bool.and_eq_true] at h1
 refine ⟨fun h0=> ?_,fun h0=> ?_⟩
 ·have:=h1.1
  rw [if_neg (by simp [Nat.blt_eq];omega)] at this
  exact eq_of_beq this
 ·have:=h1.1
  rw [if_pos (by simpa [Nat.blt_eq] using h0)] at this
  exact eq_of_beq this
theorem vh {lb:Nat→Nat→Nat} {k:Nat} {L:Lv} (h:G8 lb k L=true) {d:Nat} (h0:0 < d) (hd:d < L.N):ev L d (par L d) < d∧par L d < k + 1:=by
 unfold G8 at h
 simp only [Bool.and_eq_true] at h
 have:=dH.1 h.2.2.2 d hd
 rw [Bool.or_eq_true] at this
 rcases this with h1 | h1
 ·have:d=0:=by simpa using h1
  omega
 ·simp only [Bool.and_eq_true] at h1
  exact ⟨by simpa [Nat.blt_eq] using h1.1,by simpa [Nat.blt_eq] using h1.2.1⟩
theorem xd {lb:Nat→Nat→Nat} {k:Nat} {L:Lv} (h:G8 lb k L=true) {g:Nat} (hg:g < k):ev L 0 g=L.N + g:=by
 unfold G8 at h
 simp only [Bool.and_eq_true] at h
 simpa using dH.1 h.2.2.1 g hg
theorem yJ {Y:Type} {F:Nat→Y→Y} {lb:Nat→Nat→Nat} {y0:Y} {I:Nat} {n:Nat} (hF:∀g,g < n→kD I (2 ^ g)=true→F g y0=y0):∀(tw:List Lv),tw.length≤n→m6 lb tw=true→oz tw=true→∀x,fq tw x=true→qj I tw x=true→nW F y0 tw x=y0
 | [],_,_,_=>fun x _ _=>by cases x<;>rfl
 | L :: r,hn,h,hS=>fun x hx hs=>by
  rw [oz,Bool.and_eq_true] at hS
  have hn':r.length + 1≤n:=hn
  rw [m6,Bool.and_eq_true] at h
  match x,hx with
  | [],hx=>cases hx
  | d :: u,hx=>
   rw [fq,Bool.and_eq_true] at hx
   rw [qj,Bool.and_eq_true] at hs
   show EF F L (nW F y0 r u) d=y0
   rw [yJ hF r ae h.2 hS.2 u hx.2 hs.2]
   have hd:d < L.N:=by simpa using hx.1
   have hs1:=hs.1
   clear hx hs
   induction d using Nat.strongRecOn with
   | _ d ih=>
    by_cases d0:d=0
    ·subst d0;exact oH F L y0
    ·obtain ⟨p1,p2⟩:=vh h.1 ae hd
     rw [Bd p1]
     have e:=(vf hS.1 hd).2 ae
     rw [e,wi] at hs1
     rw [ih _ p1 ae hs1.1]
     exact hF _ ae hs1.2
theorem Eg {lb:Nat→Nat→Nat} :∀(tw:List Lv),zI lb tw=true→m6 lb tw=true→∀x,fq tw x=true→∃w,(∀g∈w,g < tw.length)∧cS (tf tw) (dM tw) w=x
 | [],_,_=>fun x hx=>⟨[],by simp,by cases x with
  | nil=>rfl
  | cons _ _=>cases hx⟩
 | L :: r,hB,h=>fun x hx=>by
  rw [zI,Bool.and_eq_true] at hB
  rw [m6,Bool.and_eq_true] at h
  match x,hx with
  | [],hx=>cases hx
  | d :: u,hx=>
   rw [fq,Bool.and_eq_true] at hx
   have hd:d < L.N:=by simpa using hx.1
   have h0N:0 < L.N:=by omega
   obtain ⟨w,hw,e⟩:=Eg r hB.2 h.2 u hx.2
   have low:∀(w:List Nat) (v:List Nat),(∀g∈w,g < r.length)→cS (tf (L :: r)) (0 :: v) w=0 :: cS (tf r) v w:=by
    intro w
    induction w with
    | nil=>intro v _;rfl
    | cons g w ihw=>
     intro v hg
     show cS (tf (L :: r)) (tf (L :: r) g (0 :: v)) w=0 :: cS (tf r) (tf r g v) w
     have e0:=xd h.1 (hg g (by simp))
     rw [tf,if_neg ae,e0,Nat.add_sub_cancel_left]
     exact ihw _ fun y hy=>hg y (by simp [hy])
   have base:cS (tf (L :: r)) (dM (L :: r)) w=0 :: u:=by
    have:=low w (dM r) hw
    rw [e] at this;exact this
   suffices ∃v,(∀g∈v,g < r.length + 1)∧cS (tf (L :: r)) (0 :: u) v=d :: u by
    obtain ⟨v,v1,v2⟩:=this
    refine ⟨w ++ v,fun g hg=> ?_,by rw [iP,base];exact v2⟩
    rcases List.mem_append.1 hg with hg | hg
    ·have:=hw g hg;show g < r.length + 1;omega
    ·exact v1 g hg
   clear hx base low e w hw
   induction d using Nat.strongRecOn with
   | _ d ih=>
    by_cases d0:d=0
    ·subst d0;exact ⟨[],by simp,rfl⟩
    ·obtain ⟨p1,p2⟩:=vh h.1 ae hd
     obtain ⟨v,v1,v2⟩:=ih _ p1 ae
     refine ⟨v ++ [par L d],fun g hg=> ?_, ?_⟩
     ·rcases List.mem_append.1 hg with hg | hg
      ·exact v1 g hg
      ·simp at hg;subst hg;exact p2
     ·rw [iP,v2]
      show tf (L :: r) (par L d) (ev L d (par L d) :: u)=d :: u
      have s1:=((gZ hB.1 hd p2).1 ae).1
      rw [tf,s1,if_pos hd]
theorem ym {Y:Type} (F:Nat→Y→Y) (y0:Y):∀tw:List Lv,nW F y0 tw (dM tw)=y0
 | []=>rfl
 | L :: r=>by
  show EF F L (nW F y0 r (dM r)) 0=y0
  rw [oH];exact ym F y0 r
theorem sz (I:Nat):∀tw:List Lv,oz tw=true→(∀L∈tw,0 < L.N)→qj I tw (dM tw)=true
 | [],_,_=>rfl
 | L :: r,h,hp=>by
  rw [oz,Bool.and_eq_true] at h
  show (kD I (Cr L 0) && qj I r (dM r))=true
  rw [(vf h.1 (hp L (by simp))).1 rfl,Ej,sz I r h.2 fun M hM=>hp M (by simp [hM])];rfl
theorem xN {Y:Type} {F:Nat→Y→Y} {lb:Nat→Nat→Nat} {y0:Y} {tw:List Lv} (hl:∀i j,0 < lb i j) (A:A9 lb tw.length F) (hB:zI lb tw=true) (hU:m6 lb tw=true):∀(w:List Nat) (x:List Nat),(∀g∈w,g < tw.length)→fq tw x=true→nW F y0 tw (cS (tf tw) x w)=cS F (nW F y0 tw x) w
 | [],x,_,_=>rfl
 | g :: w,x,hw,hx=>by
  have hg:=hw g (by simp)
  show nW F y0 tw (cS (tf tw) (tf tw g x) w)=cS F (F g (nW F y0 tw x)) w
  rw [xN hl A hB hU w _ (fun y hy=>hw y (by simp [hy])) ((kq tw hB).ok g x hg hx),AO hl A tw (Nat.le_refl _) hB hU g x hg hx]
theorem u9 (i j:Nat):∀m,iV i j (m + 1)=iV i j m ++ [i,j]
 | 0=>rfl
 | m + 1=>by
  show i :: j :: iV i j (m + 1)=i :: j :: iV i j m ++ [i,j]
  rw [u9 i j m];rfl
theorem sa (i j:Nat):∀m,(iV i j m).reverse=iV j i m
 | 0=>rfl
 | m + 1=>by
  rw [u9,List.reverse_append,sa i j m];rfl
theorem n6 {X:Type} {f:Nat→X→X} {n:Nat} (hi:∀g x,g < n→f g (f g x)=x):∀(w:List Nat) (x:X),(∀g∈w,g < n)→cS f (cS f x w) w.reverse=x
 | [],x,_=>rfl
 | g :: w,x,hw=>by
  rw [List.reverse_cons,iP]
  show f g (cS f (cS f (f g x) w) w.reverse)=x
  rw [n6 hi w _ fun y hy=>hw y (by simp [hy])]
  exact hi g x (hw g (by simp))
def zj (tw:List Lv) (g:Nat) (S:List Nat→Prop):List Nat→Prop:=fun x=>S (ta tw g x)
theorem sY (tw:List Lv):∀(w:List Nat) (S:List Nat→Prop),cS (zj tw) S w=fun x=>S (cS (ta tw) x w.reverse)
 | [],S=>rfl
 | g :: w,S=>by
  show cS (zj tw) (zj tw g S) w=_
  rw [sY tw w]
  funext x
  rw [List.reverse_cons,iP];rfl
def Fx (tw:List Lv) (I:Nat):List Nat→Prop:=fun x=>fq tw x=true∧qj I tw x=true
theorem CK {lb:Nat→Nat→Nat} {tw:List Lv} {I g:Nat} (hB:zI lb tw=true) (hS:oz tw=true) (hg:g < tw.length) (hI:kD I (2 ^ g)=true):zj tw g (Fx tw I)=Fx tw I:=by
 funext x
 have H:=kq tw hB
 unfold zj Fx
 by_cases hx:fq tw x=true
 ·obtain ⟨e,ok⟩:=Bf H hg hx
  refine propext ⟨fun h=>⟨hx, ?_⟩,fun h=>⟨ok, ?_⟩⟩
  ·have:=oE tw hB hS g _ hg hI h.1 h.2
   rw [e,H.inv g x hg hx] at this;exact this
  ·rw [e];exact oE tw hB hS g x hg hI hx h.2
 ·have e:ta tw g x=x:=by unfold ta;rw [if_neg fun h=>hx h.1]
  rw [e]
def qg (I:Nat):List Lv→Nat
 | []=>1
 | L :: r=>((List.range L.N).filter fun d=>kD I (Cr L d)).length * qg I r
theorem qu (a:Nat) (ha:0 < a) (p q:Nat→Bool):∀b,((List.range (a * b)).filter fun x=>p (x % a) && q (x / a)).length=((List.range a).filter p).length * ((List.range b).filter q).length
 | 0=>by simp
 | b + 1=>by
  rw [Nat.mul_succ,List.range_add,List.filter_append,List.length_append,qu a ha p q b,List.range_succ,List.filter_append,List.length_append,Nat.mul_add]
  congr 1
  rw [List.filter_map,List.length_map]
  cases hq:q b with
  | true=>
   have e:([b].filter q).length=1:=by simp [hq]
   rw [e,Nat.mul_one]
   congr 1
   refine List.filter_congr fun x hx=> ?_
   have hx:=List.mem_range.1 hx
   show (p ((a * b + x) % a) && q ((a * b + x) / a))=p x
   rw [Nat.mul_add_mod,Nat.mod_eq_of_lt hx,Nat.mul_add_div ha,Nat.div_eq_of_lt hx,Nat.add_zero,hq,Bool.and_true]
  | false=>
   have e:([b].filter q).length=0:=by simp [hq]
   rw [e,Nat.mul_zero,List.length_eq_zero_iff,List.filter_eq_nil_iff]
   intro x hx
   have hx:=List.mem_range.1 hx
   show ¬(p ((a * b + x) % a) && q ((a * b + x) / a))=true
   rw [Nat.mul_add_div ha,Nat.div_eq_of_lt hx,Nat.add_zero,hq,Bool.and_false];simp
theorem AT (I:Nat):∀tw:List Lv,(∀L∈tw,0 < L.N)→((List.range (dQ tw)).filter fun x=>qj I tw (ji tw x)).length=qg I tw
 | [],_=>by simp [dQ,qj,qg]
 | L :: r,h=>by
  rw [qg,←AT I r fun M hM=>h M (by simp [hM])]
  exact qu L.N (h L (by simp)) (fun d=>kD I (Cr L d)) (fun x=>qj I r (ji r x)) (dQ r)
end Go.Proofs.YtekbhbcgoadciaaGreat
namespace Go.Proofs.YtekbhbcgoadciaaGreat
structure Ext (ng:Nat) (im:List (List Int)) (less:List Int) (im':List (List Int)) (less':List Int):Prop where
 len:less.length≤less'.length
 eqv:∀a b,a < less.length→b < less.length→root less a=root less b→root less' a=root less' b
 AW:∀c g,c < less.length→g < ng→0≤bZ im (root less c) g→0≤bZ im' (root less' c) g∧root less' (bZ im' (root less' c) g).toNat=root less' (bZ im (root less c) g).toNat
theorem Ext.refl (ng:Nat) (im:List (List Int)) (less:List Int):Ext ng im less im less:=⟨Nat.le_refl _,fun _ _ _ _ h=>h,fun _ _ _ _ h=>⟨h,rfl⟩⟩
theorem Ext.trans {ng:Nat} {a b c:List (List Int)} {x y z:List Int} (h:Ext ng a x b y) (k:Ext ng b y c z) (ha:WF ng a x) (hb:WF ng b y):Ext ng a x c z:=
 ⟨Nat.le_trans h.len k.len,fun i j hi hj e=>k.eqv i j (Nat.lt_of_lt_of_le hi h.len) (Nat.lt_of_lt_of_le hj h.len) (h.eqv i j hi hj e),fun i g hi hg h0=>by
  obtain ⟨h1,h2⟩:=h.AW i g hi hg h0
  have hl:=h.len
  have hi':i < y.length:=by omega
  obtain ⟨h3,h4⟩:=k.AW i g hi' hg h1
  have e1:=hb.bZ (root y i) g (by rw [hb.len];exact de hb.down hi') hg
  have e2:=ha.bZ (root x i) g (by rw [ha.len];exact de ha.down hi) hg
  exact ⟨h3,h4.trans (k.eqv _ _ ae ae h2)⟩⟩
def qL (im:List (List Int)) (less:List Int) (c:Nat):List Nat→Option Nat
 | []=>some (root less c)
 | g :: r=>if 0≤bZ im (root less c) g then qL im less (bZ im (root less c) g).toNat r else none
theorem oo {im:List (List Int)} {less:List Int} {a b:Nat} (h:root less a=root less b) (w:List Nat):qL im less a w=qL im less b w:=by
 cases w with
 | nil=>simp [qL,h]
 | cons g r=>simp only [qL,h]
theorem oc {im:List (List Int)} {less:List Int} :∀(u:List Nat) (c d g:Nat),qL im less c u=some d→0≤bZ im d g→qL im less c (u ++ [g])=some (root less (bZ im d g).toNat)
 | [],c,d,g,h,h0=>by
  simp [qL] at h;subst h
  simp [qL,h0]
 | k :: r,c,d,g,h,h0=>by
  simp only [List.cons_append,qL] at h ⊢
  split at h
  ·rename_i h1
   rw [if_pos h1];exact oc r _ d g h h0
  ·cases h
theorem Ext.path {ng:Nat} {im im':List (List Int)} {less less':List Int} (h:Ext ng im less im' less') (hw:WF ng im less):∀(w:List Nat) (c d:Nat),c < less.length→(∀g∈w,g < ng)→qL im less c w=some d→qL im' less' c w=some (root less' d)
 | [],c,d,hc,_,hp=>by
  simp [qL] at hp;subst hp
  simp only [qL]
  rw [h.eqv c (root less c) hc (de hw.down hc) (iA hw.down hc).symm]
 | g :: r,c,d,hc,hg,hp=>by
  simp only [qL] at hp ⊢
  split at hp
  ·rename_i h0
   obtain ⟨h1,h2⟩:=h.AW c g hc (hg g (by simp)) h0
   have e:=hw.bZ (root less c) g (by rw [hw.len];exact de hw.down hc) (hg g (by simp))
   rw [if_pos h1,oo h2]
   exact h.path hw r _ d ae (fun x hx=>hg x (by simp [hx])) hp
  ·cases hp
theorem Ext.set {ng:Nat} {im:List (List Int)} {less:List Int} (hw:WF ng im less) {c g:Nat} {z:Int} (hc:c < less.length) (hg:g < ng) (h0:bZ im c g < 0):Ext ng im less (eh im c g z) less:=
 ⟨Nat.le_refl _,fun _ _ _ _ h=>h,fun a k _ _ hp=>by
  have e:=eK (im:=im) (c:=c) (g:=g) (k:=root less a) (j:=k) (z:=z) (by rw [hw.len];exact hc) (by rw [hw.row c (by rw [hw.len];exact hc)];exact hg)
  rw [if_neg (by rintro ⟨e1,e2⟩;rw [←e1,←e2] at hp;omega)] at e
  rw [e];exact ⟨hp,rfl⟩⟩
theorem Ext.app {ng:Nat} {im:List (List Int)} {less:List Int} (hw:WF ng im less):Ext ng im less (im ++ [List.replicate ng (-1)]) (less ++ [(less.length:Int)]):=by
 have hl:=hw.len
 have hra:=wW hw.down
 refine ⟨by simp,fun a b ha hb h=>by rw [hra a ha,hra b hb,h],fun a k ha hk h0=> ?_⟩
 have hr:=de hw.down ha
 have e:bZ (im ++ [List.replicate ng (-1)]) (root less a) k=bZ im (root less a) k:=by unfold bZ;rw [fh ae]
 rw [hra a ha,e]
 exact ⟨h0,rfl⟩
theorem uH {ng:Nat} {im:List (List Int)} {less:List Int} {c g:Nat} (hw:WF ng im less) (hc:c < less.length) (hg:g < ng) (hlc:aC less c=(c:Int)):Ext ng im less (ck ng im less c g).1 (ck ng im less c g).2.1∧
  ((ck ng im less c g).2.2.1=false→0≤bZ (ck ng im less c g).1 c g∧root (ck ng im less c g).2.1 (bZ (ck ng im less c g).1 c g).toNat=(ck ng im less c g).2.2.2∧root (ck ng im less c g).2.1 c=c):=by
 unfold ck
 split
 ·rename_i h0
  exact ⟨Ext.refl _ _ _,fun _=>⟨h0,rfl,dj hlc⟩⟩
 ·rename_i h0
  split
  ·exact ⟨Ext.refl _ _ _,fun h=>nomatch h⟩
  ·have hl:=hw.len
   have w1:=hw.app
   have ec:bZ (im ++ [List.replicate ng (-1)]) c g=bZ im c g:=by unfold bZ;rw [fh ae]
   have en:bZ (im ++ [List.replicate ng (-1)]) less.length g= -1:=by unfold bZ;rw [←hl,fH,fp hg]
   have w2:=w1.gD (c:=c) (g:=g) (z:=(less.length:Int)) (by simp;omega) hg (by simp;omega)
   have e2:∀a k,bZ (eh (im ++ [List.replicate ng (-1)]) c g (less.length:Int)) a k=if c=a∧g=k then (less.length:Int) else bZ (im ++ [List.replicate ng (-1)]) a k:=fun a k=>eK (by simp;omega) (by rw [w1.row _ (by simp;omega)];exact hg)
   have e3:∀a k,bZ (nD ng im less.length c g) a k=if less.length=a∧g=k then (c:Int) else bZ (eh (im ++ [List.replicate ng (-1)]) c g (less.length:Int)) a k:=fun a k=>by
    unfold nD
    exact eK (by rw [dB];simp;omega) (by rw [w2.row _ (by rw [dB];simp;omega)];exact hg)
   have x1:=Ext.app (ng:=ng) hw
   have x2:=Ext.set (z:=(less.length:Int)) w1 (c:=c) (g:=g) (by simp;omega) hg ae
   have x3:=Ext.set (z:=(c:Int)) w2 (c:=less.length) (g:=g) (by simp) hg (by rw [e2,if_neg ae];omega)
   refine ⟨(x1.trans x2 hw w1).trans x3 hw w2,fun _=> ?_⟩
   have e4:=e3 c g
   rw [if_neg ae,e2,if_pos ⟨rfl,rfl⟩] at e4
   dsimp only
   rw [e4]
   exact ⟨ae,by rw [Int.toNat_natCast];exact dj dv,dj (by rw [cC hc];exact hlc)⟩
theorem CI {ng lo hi:Nat} {im:List (List Int)} {less:List Int} {p:Int×Int} {q:List (Int×Int)} (h:WF ng im less) (hp:p.1.toNat < less.length∧p.2.toNat < less.length) (hlt:lo < hi) (hhi:hi < less.length) (hl0:aC less lo=(lo:Int)) (hh0:aC less hi=(hi:Int))
  (hr:(root less p.1.toNat=lo∧root less p.2.toNat=hi)∨(root less p.1.toNat=hi∧root less p.2.toNat=lo)):
  (∀a b,iT less (p :: q) a b→iT (less.set hi (lo:Int)) (bH lo hi (im,q) ng).2 a b)∧
  ∀r g,r < less.length→g < ng→0≤bZ im r g→0≤bZ (bH lo hi (im,q) ng).1 (if r=hi then lo else r) g∧iT (less.set hi (lo:Int)) (bH lo hi (im,q) ng).2 (bZ (bH lo hi (im,q) ng).1 (if r=hi then lo else r) g).toNat (bZ im r g).toNat:=by
 have hil:lo < im.length:=by rw [h.len];omega
 obtain ⟨m1,m2,m3,m4,_⟩:=lh (q:=q) h hil (by omega:lo≠hi) ng (Nat.le_refl _)
 have hrs:=sZ h.down hlt hhi hl0 hh0
 generalize (bH lo hi (im,q) ng).1=im' at *
 generalize (bH lo hi (im,q) ng).2=q' at *
 have hlh:iT (less.set hi (lo:Int)) q' hi lo:=by
  have:=iT.root (less:=less.set hi (lo:Int)) (q:=q') hi (by rw [List.length_set];exact hhi)
  rwa [hrs hi hhi,dj hh0,if_pos rfl] at this
 have hroot:∀a,a < less.length→iT (less.set hi (lo:Int)) q' a (root less a):=fun a ha=>by
  have:=iT.root (less:=less.set hi (lo:Int)) (q:=q') a (by rw [List.length_set];exact ha)
  rw [hrs a ha] at this
  by_cases e:root less a=hi
  ·rw [if_pos e] at this;rw [e];exact this.trans hlh.symm
  ·rwa [if_neg e] at this
 have elo:∀g,g < ng→(0≤bZ im lo g→bZ im' lo g=bZ im lo g)∧(0≤bZ im hi g→0≤bZ im' lo g∧iT (less.set hi (lo:Int)) q' (bZ im' lo g).toNat (bZ im hi g).toNat):=fun g hg=>by
  have e:=m2 g hg
  refine ⟨fun h0=> ?_,fun h0=> ?_⟩
  ·rw [e];split<;>first | rfl | rw [if_pos h0]
  ·by_cases h1:0≤bZ im lo g
   ·rw [e,if_neg ae,if_pos h1]
    exact ⟨h1,(iT.pair _ (m4 g hg h0 h1)).symm⟩
   ·rw [e,if_neg ae,if_neg h1]
    exact ⟨h0, .refl _⟩
 refine ⟨fun a b hab=>iT.mono hroot (fun x hx=> ?_) hab,fun r g hr' hg h0=> ?_⟩
 ·rcases List.mem_cons.1 hx with rfl | hx
  ·have k1:=hroot _ hp.1
   have k2:=hroot _ hp.2
   rcases hr with ⟨r1,r2⟩ | ⟨r1,r2⟩
   ·rw [r1] at k1;rw [r2] at k2;exact k1.trans (hlh.symm.trans k2.symm)
   ·rw [r1] at k1;rw [r2] at k2;exact k1.trans (hlh.trans k2.symm)
  ·exact .pair x (m3 x hx)
 ·by_cases e:r=hi
  ·subst e;rw [if_pos rfl];exact (elo g hg).2 h0
  ·rw [if_neg e]
   by_cases e2:r=lo
   ·subst e2;rw [(elo g hg).1 h0];exact ⟨h0, .refl _⟩
   ·rw [m1 r g (.inl e2)];exact ⟨h0, .refl _⟩
structure Hz (ng:Nat) (im0:List (List Int)) (less0:List Int) (im:List (List Int)) (less:List Int) (q:List (Int×Int)):Prop where
 eqv:∀a b,a < less0.length→b < less0.length→root less0 a=root less0 b→iT less q a b
 AW:∀c g,c < less0.length→g < ng→0≤bZ im0 (root less0 c) g→0≤bZ im (root less c) g∧iT less q (bZ im (root less c) g).toNat (bZ im0 (root less0 c) g).toNat
theorem ky {ng n a0 b0:Nat} {im0:List (List Int)} {less0:List Int} (h0:less0.length=n):∀(f:Nat) (im:List (List Int)) (less:List Int) (q:List (Int×Int)),WF ng im less→less.length=n→nj n q→fuel ng less q≤f→Hz ng im0 less0 im less q→iT less q a0 b0→
  Hz ng im0 less0 (cP ng f im less q).1 (cP ng f im less q).2 []∧iT (cP ng f im less q).2 [] a0 b0
 | 0,im,less,q,h,hn,hq,hf,hE,hab=>by
  have:q= []:=List.eq_nil_of_length_eq_zero (by unfold fuel at hf;omega)
  subst this;exact ⟨hE,hab⟩
 | f + 1,im,less, [],h,hn,hq,hf,hE,hab=>⟨hE,hab⟩
 | f + 1,im,less,p :: q,h,hn,hq,hf,hE,hab=>by
  have hp:=hq p (by simp)
  have hq':nj less.length q:=fun x hx=>hn ▸ hq x (by simp [hx])
  have hr1:=eI h.down p.1.toNat ae
  have hr2:=eI h.down p.2.toNat ae
  have hfu:fuel ng less (p :: q)=fuel ng less q + 1:=by unfold fuel;simp;omega
  simp only [cP]
  split
  ·rename_i he
   have mono:∀a b,iT less (p :: q) a b→iT less q a b:=fun a b hab=>hab.mono (fun a ha=> .root a ha) fun x hx=>by
    rcases List.mem_cons.1 hx with rfl | hx
    ·have k1:=iT.root (less:=less) (q:=q) x.1.toNat ae
     have k2:=iT.root (less:=less) (q:=q) x.2.toNat ae
     rw [he] at k1;exact k1.trans k2.symm
    ·exact .pair x hx
   exact ky h0 f im less q h hn (fun x hx=>hq x (by simp [hx])) ae ⟨fun a b ha hb e=>mono _ _ (hE.eqv a b ha hb e),fun c g hc hg e=>⟨(hE.AW c g hc hg e).1,mono _ _ (hE.AW c g hc hg e).2⟩⟩ (mono _ _ hab)
  ·rename_i hne
   have hid:=ke h (hn ▸ hq) hne
   unfold gv at hid
   obtain ⟨_,w1,w2,w3⟩:=hid
   have hroots:aC less (min (root less p.1.toNat) (root less p.2.toNat))=((min (root less p.1.toNat) (root less p.2.toNat):Nat):Int)∧aC less (max (root less p.1.toNat) (root less p.2.toNat))=((max (root less p.1.toNat) (root less p.2.toNat):Nat):Int):=by
    rcases Nat.le_total (root less p.1.toNat) (root less p.2.toNat) with h5 | h5
    ·rw [Nat.min_eq_left h5,Nat.max_eq_right h5];exact ⟨hr1.1,hr2.1⟩
    ·rw [Nat.min_eq_right h5,Nat.max_eq_left h5];exact ⟨hr2.1,hr1.1⟩
   obtain ⟨k1,k2⟩:=CI (q:=q) h (p:=p) ae (lo:=min (root less p.1.toNat) (root less p.2.toNat)) (hi:=max (root less p.1.toNat) (root less p.2.toNat)) ae ae hroots.1 hroots.2 (by
    rcases Nat.le_total (root less p.1.toNat) (root less p.2.toNat) with h5 | h5
    ·left;rw [Nat.min_eq_left h5,Nat.max_eq_right h5];exact ⟨rfl,rfl⟩
    ·right;rw [Nat.min_eq_right h5,Nat.max_eq_left h5];exact ⟨rfl,rfl⟩)
   have hrs:=sZ h.down (lo:=min (root less p.1.toNat) (root less p.2.toNat)) (hi:=max (root less p.1.toNat) (root less p.2.toNat)) ae ae hroots.1 hroots.2
   refine ky h0 f _ _ _ w1 (by rw [List.length_set];exact hn) (hn ▸ w2) ae ⟨fun a b ha hb e=>k1 _ _ (hE.eqv a b ha hb e),fun c g hc hg e=> ?_⟩ (k1 _ _ hab)
   obtain ⟨e1,e2⟩:=hE.AW c g hc hg e
   have hcl:c < less.length:=by omega
   obtain ⟨e3,e4⟩:=k2 (root less c) g (de h.down hcl) hg e1
   rw [hrs c hcl]
   exact ⟨e3,e4.trans (k1 _ _ e2)⟩
theorem uM {ng:Nat} {im:List (List Int)} {less:List Int} {p:Int×Int} (h:WF ng im less) (hq:nj less.length [p]):
  Ext ng im less (ident ng im less [p]).1 (ident ng im less [p]).2∧root (ident ng im less [p]).2 p.1.toNat=root (ident ng im less [p]).2 p.2.toNat:=by
 obtain ⟨w,hl⟩:=iI h rfl hq
 have hh:∀a,a < less.length→iT less [p] a (root less a):=fun a ha=> .root a ha
 obtain ⟨hE,hab⟩:=ky (im0:=im) (less0:=less) rfl (fuel ng less [p]) im less [p] h rfl hq (Nat.le_refl _) ⟨fun a b ha hb e=>(hh a ha).trans (e ▸ (hh b hb).symm),fun c g _ _ e=>⟨e, .refl _⟩⟩ (iT.pair (less:=less) p (by simp))
 have hE:Hz ng im less (ident ng im less [p]).1 (ident ng im less [p]).2 []:=hE
 have hab:iT (ident ng im less [p]).2 [] p.1.toNat p.2.toNat:=hab
 exact ⟨⟨Nat.le_of_eq hl.symm,fun a b ha hb e=>(hE.eqv a b ha hb e).rh w.down,fun c g hc hg e=>⟨(hE.AW c g hc hg e).1,(hE.AW c g hc hg e).2.rh w.down⟩⟩,hab.rh w.down⟩
theorem A6 {ng n0:Nat} :∀(w:List Nat) (s:List (List Int)×List Int×Bool×Nat),vW ng n0 s→fy ng s.1 s.2.1 []→(s.2.2.1=false→aC s.2.1 s.2.2.2=(s.2.2.2:Int))→(∀g∈w,g < ng)→
  Ext ng s.1 s.2.1 (ic ng s w).1 (ic ng s w).2.1∧((ic ng s w).2.2.1=false→qL (ic ng s w).1 (ic ng s w).2.1 s.2.2.2 w=some (ic ng s w).2.2.2)
 | [],s,h,hB,hl,_=>⟨Ext.refl _ _ _,fun hf=>by simp only [ic,qL];rw [dj (hl hf)]⟩
 | g :: r,s,h,hB,hl,hg=>by
  unfold ic
  split
  ·rename_i hf
   exact ⟨Ext.refl _ _ _,fun h0=>by rw [hf] at h0;cases h0⟩
  ·rename_i hf
   have hld:=hl (by simpa using hf)
   obtain ⟨b1,b2,b3⟩:=hB.next h.wf h.d hld (hg g (by simp)) h.hi
   obtain ⟨h1,h2,h3,h4,_⟩:=gV h.wf h.d (hg g (by simp)) h.hi
   obtain ⟨x1,y1⟩:=uH h.wf h.d (hg g (by simp)) hld
   obtain ⟨x2,y2⟩:=A6 (n0:=n0) r (ck ng s.1 s.2.1 s.2.2.2 g) ⟨h1,Nat.le_trans h.lo h2,h3,h4⟩ b1 b2 fun x hx=>hg x (by simp [hx])
   refine ⟨x1.trans x2 h.wf h1,fun hff=> ?_⟩
   have ht:(ck ng s.1 s.2.1 s.2.2.2 g).2.2.1=false:=by
    cases e:(ck ng s.1 s.2.1 s.2.2.2 g).2.2.1 with
    | false=>rfl
    | true=>rw [ij e] at hff;rw [e] at hff;cases hff
   obtain ⟨z1,z2,z3⟩:=y1 ht
   have hd:=h.d
   have hdt:s.2.2.2 < (ck ng s.1 s.2.1 s.2.2.2 g).2.1.length:=by omega
   have he:=h1.bZ s.2.2.2 g (by rw [h1.len];exact hdt) (hg g (by simp))
   obtain ⟨i1,i2⟩:=x2.AW s.2.2.2 g hdt (hg g (by simp)) (by rw [z3];exact z1)
   rw [z3] at i2
   have i3:=x2.eqv (bZ (ck ng s.1 s.2.1 s.2.2.2 g).1 s.2.2.2 g).toNat (ck ng s.1 s.2.1 s.2.2.2 g).2.2.2 ae h4 (by rw [z2,dj (b2 ht)])
   simp only [qL]
   rw [if_pos i1,oo (i2.trans i3)]
   exact y2 hff
def GD (im:List (List Int)) (less:List Int) (c:Nat) (w:List Nat):Prop:=qL im less c w=some (root less c)
theorem Ext.cl {ng:Nat} {im im':List (List Int)} {less less':List Int} (h:Ext ng im less im' less') (hw:WF ng im less) {c:Nat} {w:List Nat} (hc:c < less.length) (hg:∀g∈w,g < ng) (hcl:GD im less c w):GD im' less' c w:=by
 unfold GD
 rw [h.path hw w c _ hc hg hcl,h.eqv (root less c) c (de hw.down hc) hc (iA hw.down hc)]
theorem te {ng:Nat} {im:List (List Int)} {less:List Int} {c:Nat} {w:List Nat} (h:WF ng im less) (hB:fy ng im less []) (hc:c < less.length) (hl:aC less c=(c:Int)) (hn:less.length≤2000) (hg:∀g∈w,g < ng):
  Ext ng im less (db ng im less c w).1 (db ng im less c w).2.1∧((db ng im less c w).2.2=false→GD (db ng im less c w).1 (db ng im less c w).2.1 c w):=by
 unfold db
 cases hlast:w.getLast? with
 | none=>
  have:w= []:=List.getLast?_eq_none_iff.1 hlast
  subst this
  exact ⟨Ext.refl _ _ _,fun _=>rfl⟩
 | some g=>
  have hgl:g < ng:=hg g (List.mem_of_getLast? hlast)
  have hgd:∀x∈w.dropLast,x < ng:=fun x hx=>hg x (List.dropLast_subset _ hx)
  have ok:=nE (n0:=less.length) w.dropLast (im,less,false,c) ⟨h,Nat.le_refl _,hn,hc⟩ hgd
  obtain ⟨b1,b2,b3⟩:=th (n0:=less.length) w.dropLast (im,less,false,c) ⟨h,Nat.le_refl _,hn,hc⟩ hB (fun _=>hl) hgd
  obtain ⟨x1,y1⟩:=A6 (n0:=less.length) w.dropLast (im,less,false,c) ⟨h,Nat.le_refl _,hn,hc⟩ hB (fun _=>hl) hgd
  have hww:w=w.dropLast ++ [g]:=by
   obtain ⟨ys,rfl⟩:=List.getLast?_eq_some_iff.1 hlast
   simp
  generalize hwd:w.dropLast=u at *
  generalize ic ng (im,less,false,c) u=s at *
  have hcs:c < s.2.1.length:=Nat.lt_of_lt_of_le hc ok.lo
  have hlc:aC s.2.1 c=(c:Int):=(b3 c hc).trans hl
  have x1:Ext ng im less s.1 s.2.1:=x1
  dsimp only
  split
  ·exact ⟨x1,fun h=>nomatch h⟩
  ·rename_i hf
   have y1:qL s.1 s.2.1 c u=some s.2.2.2:=y1 (by simpa using hf)
   have hld:aC s.2.1 s.2.2.2=(s.2.2.2:Int):=b2 (by simpa using hf)
   have e1:=eL ok.wf ok.d hgl
   have e2:=eL ok.wf hcs hgl
   have hd:=ok.d
   split
   ·rename_i he
    have qok:nj s.2.1.length [(image s.1 s.2.1 s.2.2.2 g,(c:Int))]:=fun p hp=>by simp at hp;subst hp;exact ⟨⟨he,e1⟩,ae,by dsimp only;omega⟩
    obtain ⟨x2,r2⟩:=uM ok.wf qok
    refine ⟨x1.trans x2 h ok.wf,fun _=> ?_⟩
    have hee:0≤bZ s.1 s.2.2.2 g:=by unfold image at he;split at he<;>omega
    have hei:(image s.1 s.2.1 s.2.2.2 g).toNat=root s.2.1 (bZ s.1 s.2.2.2 g).toNat:=by unfold image;rw [if_neg ae];simp
    have p1:=oc u c s.2.2.2 g y1 hee
    rw [←hww] at p1
    have p2:=x2.path ok.wf w c _ hcs hg p1
    unfold GD
    rw [p2,←hei]
    exact congrArg some r2
   ·rename_i he
    split
    ·rename_i hf2
     have qok:nj s.2.1.length [(image s.1 s.2.1 c g,(s.2.2.2:Int))]:=fun p hp=>by simp at hp;subst hp;exact ⟨⟨hf2,e2⟩,ae,by dsimp only;omega⟩
     obtain ⟨x2,r2⟩:=uM ok.wf qok
     obtain ⟨w2,l2⟩:=iI ok.wf rfl qok
     have b4:=nw ok.wf qok b1
     refine ⟨x1.trans x2 h ok.wf,fun _=> ?_⟩
     have hee:0≤bZ s.1 c g:=by unfold image at hf2;split at hf2<;>omega
     have hei:(image s.1 s.2.1 c g).toNat=root s.2.1 (bZ s.1 c g).toNat:=by unfold image;rw [if_neg ae];simp
     have p2:=x2.path ok.wf u c _ hcs (fun x hx=>hgd x hx) y1
     obtain ⟨i1,i2⟩:=x2.AW c g hcs hgl (by rw [dj hlc];exact hee)
     rw [dj hlc] at i2
     have hent:=ok.wf.bZ c g (by rw [ok.wf.len];exact hcs) hgl
     have i3:=x2.eqv (bZ s.1 c g).toNat (root s.2.1 (bZ s.1 c g).toNat) ae (de ok.wf.down ae) (iA ok.wf.down ae).symm
     dsimp only at r2
     rw [hei,Int.toNat_natCast] at r2
     generalize hS:ident ng s.1 s.2.1 [(image s.1 s.2.1 c g,(s.2.2.2:Int))]=S at *
     have hcl:c < S.2.length:=by omega
     obtain ⟨j1,j2⟩:=b4.fix w2 (de w2.down hcl) (eI w2.down c hcl).1 hgl i1
     have e5:root S.2 (bZ S.1 (root S.2 c) g).toNat=root S.2 s.2.2.2:=i2.trans (i3.trans r2)
     rw [e5] at j1 j2
     have p3:=oc u c (root S.2 s.2.2.2) g p2 j1
     rw [←hww,j2] at p3
     exact p3
    ·rename_i hf2
     have n1:bZ s.1 c g < 0:=by unfold image at hf2;split at hf2<;>omega
     have n2:bZ s.1 s.2.2.2 g < 0:=by unfold image at he;split at he<;>omega
     have w1:=ok.wf.gD (c:=s.2.2.2) (g:=g) (z:=(c:Int)) (by rw [ok.wf.len];omega) hgl ae
     have w2:=w1.gD (c:=c) (g:=g) (z:=(s.2.2.2:Int)) (by rw [dB,ok.wf.len];omega) hgl ae
     have ea:∀a k,bZ (eh s.1 s.2.2.2 g (c:Int)) a k=if s.2.2.2=a∧g=k then (c:Int) else bZ s.1 a k:=fun a k=>eK (by rw [ok.wf.len];omega) (by rw [ok.wf.row _ (by rw [ok.wf.len];omega)];exact hgl)
     have ee:∀a k,bZ (eh (eh s.1 s.2.2.2 g (c:Int)) c g (s.2.2.2:Int)) a k=if c=a∧g=k then (s.2.2.2:Int) else if s.2.2.2=a∧g=k then (c:Int) else bZ s.1 a k:=fun a k=>by
      rw [eK (by rw [dB,ok.wf.len];omega) (by rw [iG,ok.wf.row c (by rw [ok.wf.len];omega)];exact hgl),ea]
     have x2:Ext ng s.1 s.2.1 (eh (eh s.1 s.2.2.2 g (c:Int)) c g (s.2.2.2:Int)) s.2.1:=⟨Nat.le_refl _,fun _ _ _ _ h=>h,fun a k _ _ hp=>by
      have e:=ee (root s.2.1 a) k
      rw [if_neg (by rintro ⟨e1,e2⟩;rw [←e1,←e2] at hp;omega),if_neg (by rintro ⟨e1,e2⟩;rw [←e1,←e2] at hp;omega)] at e
      rw [e];exact ⟨hp,rfl⟩⟩
     refine ⟨x1.trans x2 h ok.wf,fun _=> ?_⟩
     have p2:=x2.path ok.wf u c _ hcs (fun x hx=>hgd x hx) y1
     rw [dj hld] at p2
     have e6:=ee s.2.2.2 g
     have e7:bZ (eh (eh s.1 s.2.2.2 g (c:Int)) c g (s.2.2.2:Int)) s.2.2.2 g=(c:Int):=by
      rw [e6]
      by_cases e:c=s.2.2.2
      ·rw [if_pos ⟨e,rfl⟩,←e]
      ·rw [if_neg (fun h=>e h.1),if_pos ⟨rfl,rfl⟩]
     have p3:=oc u c s.2.2.2 g p2 (by rw [e7];omega)
     rw [←hww,e7,Int.toNat_natCast] at p3
     exact p3
end Go.Proofs.YtekbhbcgoadciaaGreat
namespace Go.Proofs.YtekbhbcgoadciaaGreat
abbrev tS (ng:Nat) (s s':dR):Prop:=Ext ng s.1 s.2.1 s'.1 s'.2.1
abbrev Cl (s:dR) (c:Nat) (w:List Int):Prop:=GD s.1 s.2.1 c (w.map Int.toNat)
theorem Ext.cls {ng:Nat} {s s':dR} (h:tS ng s s') (hw:WF ng s.1 s.2.1) {c:Nat} {w:List Int} (hc:c < s.2.1.length) (hl:bB ng w) (hcl:Cl s c w):Cl s' c w:=h.cl hw hc hl.nat hcl
theorem Ar {ng n:Nat} {s:dR} {w:List Int} (h:BK ng n s) (hn:0 < n) (hw:bB ng w):tS ng s (dD ng s w)∧((dD ng s w).2.2=false→Cl (dD ng s w) 0 w):=by
 have h0:0 < s.2.1.length:=Nat.lt_of_lt_of_le hn h.1.lo
 unfold dD
 split
 ·rename_i hf
  exact ⟨Ext.refl _ _ _,fun h=>by rw [hf] at h;cases h⟩
 ·exact te h.1.wf h.2 h0 (by have:=h.1.wf.down 0 h0;omega) h.1.hi hw.nat
theorem zV {ng n c:Nat} {s:dR} {w:List Int} (h:BK ng n s) (hn:c < n) (hw:bB ng w):tS ng s (c9 ng c s w)∧(fb s c=true→(c9 ng c s w).2.2=false→Cl (c9 ng c s w) c w):=by
 have hc:=Nat.lt_of_lt_of_le hn h.1.lo
 unfold c9
 split
 ·rename_i hl
  have hl':aC s.2.1 c=(c:Int)∧s.2.2=false:=by unfold fb at hl;simpa using hl
  have:=te h.1.wf h.2 hc hl'.1 h.1.hi hw.nat
  exact ⟨this.1,fun _=>this.2⟩
 ·rename_i hl
  exact ⟨Ext.refl _ _ _,fun h=>absurd h hl⟩
theorem Cf {ng n c g:Nat} {s:dR} (h:BK ng n s) (hn:c < n) (hg:g < ng):tS ng s (dm ng c s g):=by
 have hc:=Nat.lt_of_lt_of_le hn h.1.lo
 unfold dm
 split
 ·rename_i hl
  have hl':aC s.2.1 c=(c:Int)∧s.2.2=false:=by unfold fb at hl;simpa using hl
  exact (uH h.1.wf hc hg hl'.1).1
 ·exact Ext.refl _ _ _
theorem tC {ng c:Nat} {s:dR} (h:s.2.2=true) (w:List Int):c9 ng c s w=s:=iH (by unfold fb;simp [h]) w
theorem vP {ng c:Nat} {s:dR} (h:s.2.2=true) (g:Nat):dm ng c s g=s:=jU (by unfold fb;simp [h]) g
theorem uN {α:Type} {f:dR→α→dR} (hf:∀s x,s.2.2=true→f s x=s):∀(l:List α) (s:dR),s.2.2=true→l.foldl f s=s
 | [],_,_=>rfl
 | x :: r,s,h=>by rw [List.foldl_cons,hf s x h];exact uN hf r s h
theorem pY {α:Type} {f:dR→α→dR} (hf:∀s x,s.2.2=true→f s x=s) {l:List α} {s:dR} (h:(l.foldl f s).2.2=false):s.2.2=false:=by
 cases e:s.2.2 with
 | false=>rfl
 | true=>rw [uN hf l s e,e] at h;cases h
theorem AL {ng n c:Nat} {R:List (List Int)} (hR:∀w∈R,bB ng w) (hn:c < n):∀(l:List (List Int)) (s:dR),(∀w∈l,w∈R)→BK ng n s→(∀i,i < c→∀w∈R,Cl s i w)→
  BK ng n (l.foldl (c9 ng c) s)∧tS ng s (l.foldl (c9 ng c) s)∧((l.foldl (c9 ng c) s).2.2=false→∀w∈l,Cl (l.foldl (c9 ng c) s) c w)
 | [],s,_,h,_=>⟨h,Ext.refl _ _ _,fun _ w hw=>by simp at hw⟩
 | x :: r,s,hl,h,hc=>by
  have hx:=hR x (hl x (by simp))
  have b1:=qn (c:=c) h hn hx
  obtain ⟨x1,c1⟩:=zV (c:=c) h hn hx
  have hlen:=h.1.lo
  have hc1:∀i,i < c→∀w∈R,Cl (c9 ng c s x) i w:=fun i hi w hw=>x1.cls h.1.wf ae (hR w hw) (hc i hi w hw)
  obtain ⟨b2,x2,c2⟩:=AL hR hn r (c9 ng c s x) (fun w hw=>hl w (by simp [hw])) b1 hc1
  rw [List.foldl_cons]
  refine ⟨b2,x1.trans x2 h.1.wf b1.1.wf,fun hf w hw=> ?_⟩
  rcases List.mem_cons.1 hw with rfl | hw
  ·refine x2.cls b1.1.wf (Nat.lt_of_lt_of_le hn b1.1.lo) hx ?_
   have hf1:=pY (f:=c9 ng c) (fun s x h=>tC h x) hf
   cases e:fb s c with
   | true=>exact c1 e hf1
   | false=>
    rw [iH e] at hf1 ⊢
    have hne:aC s.2.1 c≠(c:Int):=by unfold fb at e;rw [hf1] at e;simpa using e
    have hcs:c < s.2.1.length:=by omega
    have hd:=h.1.wf.down
    have hfix:=eI hd c hcs
    have hlt:root s.2.1 c < c:=by
     rcases Nat.lt_or_ge (root s.2.1 c) c with h1 | h1
     ·exact h1
     ·exfalso
      have h2:root s.2.1 c=c:=by omega
      rw [h2] at hfix;exact hne hfix.1
    have:=hc (root s.2.1 c) hlt w (hl w (by simp))
    show qL s.1 s.2.1 c (w.map Int.toNat)=some (root s.2.1 c)
    rw [←oo (iA hd hcs)]
    have h3:qL s.1 s.2.1 (root s.2.1 c) (w.map Int.toNat)=some (root s.2.1 (root s.2.1 c)):=this
    rw [h3,iA hd hcs]
  ·exact c2 hf w hw
theorem yC {ng n c:Nat} (hn:c < n):∀(l:List Nat) (s:dR),(∀g∈l,g < ng)→BK ng n s→BK ng n (l.foldl (dm ng c) s)∧tS ng s (l.foldl (dm ng c) s)
 | [],s,_,h=>⟨h,Ext.refl _ _ _⟩
 | g :: r,s,hg,h=>by
  have b1:=rO (c:=c) h hn (hg g (by simp))
  have x1:=Cf (c:=c) h hn (hg g (by simp))
  obtain ⟨b2,x2⟩:=yC hn r (dm ng c s g) (fun x hx=>hg x (by simp [hx])) b1
  rw [List.foldl_cons]
  exact ⟨b2,x1.trans x2 h.1.wf b1.1.wf⟩
theorem BU {ng n c:Nat} {R:List (List Int)} {s:dR} (hR:∀w∈R,bB ng w) (hn:c < n) (h:BK ng n s) (hc:∀i,i < c→∀w∈R,Cl s i w):
  BK ng n (eo ng R c s)∧tS ng s (eo ng R c s)∧((eo ng R c s).2.2=false→∀i,i < c + 1→∀w∈R,Cl (eo ng R c s) i w):=by
 obtain ⟨b1,x1,c1⟩:=AL hR hn R s (fun _ h=>h) h hc
 obtain ⟨b2,x2⟩:=yC hn (List.range ng) (R.foldl (c9 ng c) s) (fun g hg=>List.mem_range.1 hg) b1
 have hlen:=h.1.lo
 have x:tS ng s (eo ng R c s):=x1.trans x2 h.1.wf b1.1.wf
 refine ⟨b2,x,fun hf i hi w hw=> ?_⟩
 by_cases e:i=c
 ·subst e
  exact x2.cls b1.1.wf (Nat.lt_of_lt_of_le hn b1.1.lo) (hR w hw) (c1 (pY (f:=dm ng i) (fun s x h=>vP h x) hf) w hw)
 ·exact x.cls h.1.wf ae (hR w hw) (hc i ae w hw)
theorem BK.full {ng n:Nat} {s:dR} (h:BK ng n s):BK ng s.2.1.length s:=⟨⟨h.1.wf,Nat.le_refl _,h.1.hi⟩,h.2⟩
theorem xE {ng:Nat} {R:List (List Int)} (hR:∀w∈R,bB ng w):∀(f c:Nat) (s:dR),BK ng 1 s→2001≤f + c→c≤s.2.1.length→(∀i,i < c→∀w∈R,Cl s i w)→
  BK ng 1 (outer ng R f c s)∧tS ng s (outer ng R f c s)∧((outer ng R f c s).2.2=false→∀i,i < (outer ng R f c s).2.1.length→∀w∈R,Cl (outer ng R f c s) i w)
 | 0,c,s,h,hf,hc,hcl=>by have:=h.1.hi;omega
 | f + 1,c,s,h,hf,hc,hcl=>by
  unfold outer
  by_cases hcond:c < s.2.1.length∧s.2.2=false
  ·rw [if_pos hcond]
   obtain ⟨b1,x1,c1⟩:=BU hR hcond.1 h.full hcl
   have hle:=h.1.lo
   have b1':BK ng 1 (eo ng R c s):=⟨b1.1.le hle,b1.2⟩
   cases e:(eo ng R c s).2.2 with
   | true=>
    rw [hJ e]
    exact ⟨b1',x1,fun h=>by rw [e] at h;cases h⟩
   | false=>
    obtain ⟨b2,x2,c2⟩:=xE hR f (c + 1) (eo ng R c s) b1' ae (by have:=x1.len;omega) (c1 e)
    exact ⟨b2,x1.trans x2 h.1.wf b1.1.wf,c2⟩
  ·rw [if_neg hcond]
   refine ⟨h,Ext.refl _ _ _,fun hnf i hi=>hcl i ?_⟩
   by_cases e:c < s.2.1.length
   ·exact absurd ⟨e,hnf⟩ hcond
   ·omega
theorem yM {ng:Nat} {W:List (List Int)} (hW:∀w∈W,bB ng w):∀(l:List (List Int)) (s:dR),(∀w∈l,w∈W)→BK ng 1 s→
  BK ng 1 (l.foldl (dD ng) s)∧tS ng s (l.foldl (dD ng) s)∧((l.foldl (dD ng) s).2.2=false→∀w∈l,Cl (l.foldl (dD ng) s) 0 w)
 | [],s,_,h=>⟨h,Ext.refl _ _ _,fun _ w hw=>by simp at hw⟩
 | x :: r,s,hl,h=>by
  have hx:=hW x (hl x (by simp))
  have b1:=qD h ae hx
  obtain ⟨x1,c1⟩:=Ar h ae hx
  obtain ⟨b2,x2,c2⟩:=yM hW r (dD ng s x) (fun w hw=>hl w (by simp [hw])) b1
  rw [List.foldl_cons]
  refine ⟨b2,x1.trans x2 h.1.wf b1.1.wf,fun hf w hw=> ?_⟩
  rcases List.mem_cons.1 hw with rfl | hw
  ·exact x2.cls b1.1.wf (by have:=b1.1.lo;omega) hx (c1 (pY (f:=dD ng) (fun s x h=>iC h x) hf))
  ·exact c2 hf w hw
theorem qI {ng:Nat} {R W:List (List Int)} (hR:∀w∈R,bB ng w) (hW:∀w∈W,bB ng w) (hnf:(cm ng R W).2.2=false):
  (∀i,i < (cm ng R W).2.1.length→∀w∈R,Cl (cm ng R W) i w)∧∀w∈W,Cl (cm ng R W) 0 w:=by
 obtain ⟨b1,x1,c1⟩:=yM hW W (dG ng) (fun _ h=>h) (qo ng)
 obtain ⟨b2,x2,c2⟩:=xE hR 2001 0 (W.foldl (dD ng) (dG ng)) b1 ae ae (fun i hi=>by omega)
 refine ⟨c2 hnf,fun w hw=>x2.cls b1.1.wf (by have:=b1.1.lo;omega) (hW w hw) (c1 ?_ w hw)⟩
 cases e:(W.foldl (dD ng) (dG ng)).2.2 with
 | false=>rfl
 | true=>
  have:(cm ng R W)=W.foldl (dD ng) (dG ng):=hJ e _ _
  rw [this,e] at hnf;cases hnf
end Go.Proofs.YtekbhbcgoadciaaGreat
namespace Go.Proofs.YtekbhbcgoadciaaGreat
def iR (ng:Nat) (im:List (List Int)) (less:List Int) (k:Nat):Nat:=(aC (bO ng im less).1 k).toNat
def eU (ng:Nat) (im:List (List Int)) (less:List Int):Nat:=(bO ng im less).1.length
section
variable {ng:Nat} {im:List (List Int)} {less:List Int}
theorem fx {k g:Nat} (hk:k < eU ng im less) (hg:g < ng):aC (bn (cj ng im less) g) k=jN ng im less k g:=by
 unfold eU at hk
 simp [cj,bn,aC,jN,hg,hk]
theorem gJ (hF:Full ng im less) {k:Nat} (hk:k < eU ng im less):iR ng im less k < less.length∧aC less (iR ng im less k)=(iR ng im less k:Nat)∧aC (bO ng im less).2 (iR ng im less k)=(k:Int)∧aC (bO ng im less).1 k=(iR ng im less k:Nat):=by
 obtain ⟨h,_⟩:=gL hF
 obtain ⟨d,h1,h2,h3,h4⟩:=h.live k hk
 unfold iR
 rw [h1,Int.toNat_natCast]
 exact ⟨h2,h3,h4,rfl⟩
theorem DQ (hF:Full ng im less) {j k:Nat} (hj:j < eU ng im less) (hk:k < eU ng im less) (e:iR ng im less j=iR ng im less k):j=k:=by
 have h1:=(gJ hF hj).2.2.1
 have h2:=(gJ hF hk).2.2.1
 rw [e] at h1;omega
theorem ix (hF:Full ng im less) {k g:Nat} (hk:k < eU ng im less) (hg:g < ng):
  0≤jN ng im less k g∧jN ng im less k g < eU ng im less∧0≤bZ im (iR ng im less k) g∧root less (bZ im (iR ng im less k) g).toNat=iR ng im less (jN ng im less k g).toNat:=by
 obtain ⟨k1,k2,k3,k4⟩:=gJ hF hk
 obtain ⟨e,e1,e2,e3⟩:=hF.image k1 k2 hg
 have h0:=hF.full _ k1 k2 g hg
 have hent:=lq hF hk hg
 rw [k4,Int.toNat_natCast] at hent
 have ht:jN ng im less k g=aC (bO ng im less).2 (image im less (iR ng im less k) g).toNat:=by unfold jN;rw [k4,Int.toNat_natCast]
 rw [←ht] at hent
 refine ⟨hent.1,hent.2,h0, ?_⟩
 have hi:image im less (iR ng im less k) g=(root less (bZ im (iR ng im less k) g).toNat:Nat):=by unfold image;rw [if_neg ae]
 have hn:=lZ hF e e2
 rw [e1] at ht hi
 rw [Int.toNat_natCast] at ht
 have:=hn (by rw [←ht];exact hent.1)
 have h5:iR ng im less (jN ng im less k g).toNat=e:=by unfold iR;rw [ht,this,Int.toNat_natCast]
 rw [h5];omega
theorem uC (hF:Full ng im less):∀(w:List Int) (k:Nat),bB ng w→k < eU ng im less→∃j:Nat,dr (cj ng im less) k w=(j:Int)∧j < eU ng im less∧qL im less (iR ng im less k) (w.map Int.toNat)=some (iR ng im less j)
 | [],k,_,hk=>⟨k,rfl,hk,by simp only [List.map_nil,qL];rw [dj (gJ hF hk).2.1]⟩
 | z :: r,k,hw,hk=>by
  have hz:=hw z (by simp)
  obtain ⟨k1,k2,_,_⟩:=gJ hF hk
  obtain ⟨t1,t2,t3,t4⟩:=ix hF hk (g:=z.toNat) ae
  obtain ⟨j,j1,j2,j3⟩:=uC hF r (jN ng im less k z.toNat).toNat (fun x hx=>hw x (by simp [hx])) ae
  refine ⟨j, ?_,j2, ?_⟩
  ·show dr (cj ng im less) (aC (bn (cj ng im less) z.toNat) (k:Int).toNat) r=j
   rw [Int.toNat_natCast,fx hk ae,←j1,Int.toNat_of_nonneg t1]
  ·simp only [List.map_cons,qL]
   rw [dj k2,if_pos t3]
   have hent:=hF.wf.bZ (iR ng im less k) z.toNat (by rw [hF.wf.len];exact k1) ae
   rw [←oo (iA hF.wf.down ae),t4]
   exact j3
theorem qG (hF:Full ng im less) {w:List Int} {k:Nat} (hw:bB ng w) (hk:k < eU ng im less) (hc:GD im less (iR ng im less k) (w.map Int.toNat)):dr (cj ng im less) k w=(k:Int):=by
 obtain ⟨j,j1,j2,j3⟩:=uC hF w k hw hk
 unfold GD at hc
 rw [dj (gJ hF hk).2.1,j3] at hc
 rw [j1,DQ hF j2 hk (Option.some.inj hc)]
theorem oM:∀(f i:Nat) (s:je),0 < s.1.length→aC s.1 0=0→0 < (da ng im less f i s).1.length∧aC (da ng im less f i s).1 0=0
 | 0,_,s,h,h0=>⟨h,h0⟩
 | f + 1,i,s,h,h0=>by
  unfold da
  split
  ·have key:∀(l:List Nat) (s:je),0 < s.1.length→aC s.1 0=0→0 < (l.foldl (cY im less i) s).1.length∧aC (l.foldl (cY im less i) s).1 0=0:=by
    intro l
    induction l with
    | nil=>intro s h h0;exact ⟨h,h0⟩
    | cons x r ih=>
     intro s h h0
     rw [List.foldl_cons]
     refine ih _ ?_ ?_
     ·unfold cY visit;split
      ·simp
      ·exact h
     ·unfold cY visit;split
      ·dsimp only;rw [cC h];exact h0
      ·exact h0
   obtain ⟨h1,h2⟩:=key (List.range ng) s h h0
   exact oM f (i + 1) _ h1 h2
  ·exact ⟨h,h0⟩
theorem kI:0 < eU ng im less∧iR ng im less 0=0:=by
 obtain ⟨h1,h2⟩:=oM (ng:=ng) (im:=im) (less:=less) (less.length + 1) 0 (dE less.length) (by simp [dE]) (by simp [dE,aC])
 exact ⟨h1,by unfold iR;show (aC (bO ng im less).1 0).toNat=0;unfold bO;rw [h2];rfl⟩
theorem Er {X:Type} {f:Nat→X→X} {h:Nat→X} (hF:Full ng im less) (H:tR ng f im less h) {k g:Nat} (hk:k < eU ng im less) (hg:g < ng):
  h (iR ng im less (jN ng im less k g).toNat)=f g (h (iR ng im less k)):=by
 obtain ⟨t1,t2,t3,t4⟩:=ix hF hk hg
 obtain ⟨k1,k2,_,_⟩:=gJ hF hk
 have hent:=hF.wf.bZ (iR ng im less k) g (by rw [hF.wf.len];exact k1) hg
 rw [←t4,H.root hF.wf.down _ ae,H.entv _ g k1 hg t3]
end
section
variable {ng:Nat} {R W:List (List Int)}
abbrev qA (ng:Nat) (R W:List (List Int)):List (List Int):=cj ng (cm ng R W).1 (cm ng R W).2.1
abbrev tG (ng:Nat) (R W:List (List Int)):Nat:=eU ng (cm ng R W).1 (cm ng R W).2.1
theorem De (hR:∀w∈R,bB ng w) (hW:∀w∈W,bB ng w) (hnf:(cm ng R W).2.2=false) {w:List Int} (hw:w∈R) {k:Nat} (hk:k < tG ng R W):dr (qA ng R W) k w=(k:Int):=by
 have hF:=gg hR hW hnf
 exact qG hF (hR w hw) hk ((qI hR hW hnf).1 _ (gJ hF hk).1 w hw)
theorem CA (hR:∀w∈R,bB ng w) (hW:∀w∈W,bB ng w) (hnf:(cm ng R W).2.2=false) {w:List Int} (hw:w∈W):dr (qA ng R W) (0:Nat) w=((0:Nat):Int):=by
 have hF:=gg hR hW hnf
 have hz:=kI (ng:=ng) (im:=(cm ng R W).1) (less:=(cm ng R W).2.1)
 have:=(qI hR hW hnf).2 w hw
 exact qG hF (hW w hw) hz.1 (by rw [hz.2];exact this)
theorem Gs {X:Type} {f:Nat→X→X} {x0:X} (hinv:∀g x,g < ng→f g (f g x)=x) (hR:∀w∈R,bB ng w∧∀x,cS f x (w.map Int.toNat)=x) (hW:∀w∈W,bB ng w∧cS f x0 (w.map Int.toNat)=x0) (hnf:(cm ng R W).2.2=false):
  ∃φ:Nat→X,φ 0=x0∧∀(w:List Int) (k:Nat),bB ng w→k < tG ng R W→φ (dr (qA ng R W) k w).toNat=cS f (φ k) (w.map Int.toNat):=by
 have hF:=gg (fun w hw=>(hR w hw).1) (fun w hw=>(hW w hw).1) hnf
 obtain ⟨_,h,H,h0⟩:=D5 hinv hR hW
 refine ⟨fun k=>h (iR ng (cm ng R W).1 (cm ng R W).2.1 k),by dsimp only;rw [kI.2];exact h0,fun w=> ?_⟩
 induction w with
 | nil=>intro k _ _;simp [dr,cS]
 | cons z r ih=>
  intro k hw hk
  have hz:=hw z (by simp)
  obtain ⟨t1,t2,_,_⟩:=ix hF hk (g:=z.toNat) ae
  have e:dr (qA ng R W) k (z :: r)=dr (qA ng R W) ((jN ng (cm ng R W).1 (cm ng R W).2.1 k z.toNat).toNat:Nat) r:=by
   show dr (qA ng R W) (aC (bn (qA ng R W) z.toNat) (k:Int).toNat) r=_
   rw [Int.toNat_natCast,fx hk ae,Int.toNat_of_nonneg t1]
  rw [e,ih _ (fun x hx=>hw x (by simp [hx])) (by unfold tG;omega)]
  dsimp only
  rw [Er hF H hk ae]
  simp [cS]
end
end Go.Proofs.YtekbhbcgoadciaaGreat
namespace Go.Proofs.YtekbhbcgoadciaaGreat
def zl (ng:Nat) (im:List (List Int)) (less:List Int) (s:je):Prop:=∀k,1≤k→k < s.1.length→∃i g,i < k∧g < ng∧image im less (aC s.1 i).toNat g=aC s.1 k
theorem yc {ng:Nat} {im:List (List Int)} {less:List Int} (hF:Full ng im less) {i:Nat} {s:je} (h:pn less.length less s) (hb:zl ng im less s) (hi:i < s.1.length):∀m,m≤ng→zl ng im less ((List.range m).foldl (cY im less i) s)
 | 0,_=>hb
 | m + 1,hm=>by
  have ih:=yc hF h hb hi m ae
  obtain ⟨h1,h2,_⟩:=eG hF h hi m ae
  rw [List.range_succ,List.foldl_append]
  generalize (List.range m).foldl (cY im less i) s=t at *
  have hit:i < t.1.length:=Nat.lt_of_lt_of_le hi h2.len
  obtain ⟨d,k1,k2,k3,_⟩:=h1.live i hit
  obtain ⟨e,e1,e2,_⟩:=hF.image k2 k3 (g:=m) ae
  show zl ng im less (cY im less i t m)
  unfold cY
  rw [k1,Int.toNat_natCast,e1,Int.toNat_natCast]
  unfold visit
  split
  ·intro k hk1 hk2
   dsimp only at hk2 ⊢
   by_cases ek:k < t.1.length
   ·obtain ⟨j,g,j1,j2,j3⟩:=ih k hk1 ek
    exact ⟨j,g,j1,j2,by rw [cC ae,cC ek];exact j3⟩
   ·obtain rfl:k=t.1.length:=by simp at hk2;omega
    exact ⟨i,m,hit,ae,by rw [cC hit,dv,k1,Int.toNat_natCast,e1]⟩
  ·exact ih
theorem qh {ng:Nat} {im:List (List Int)} {less:List Int} (hF:Full ng im less):∀(f i:Nat) (s:je),pn less.length less s→zl ng im less s→zl ng im less (da ng im less f i s)
 | 0,i,s,_,hb=>hb
 | f + 1,i,s,h,hb=>by
  unfold da
  split
  ·rename_i hlt
   exact qh hF f (i + 1) _ (eG hF h hlt ng (Nat.le_refl _)).1 (yc hF h hb hlt ng (Nat.le_refl _))
  ·exact hb
def pf (T:List (List Int)) (m:Nat):Prop:=∀g,g < T.length→∀x,x < m→aC (bn T g) (aC (bn T g) x).toNat=(x:Int)
theorem ur {T:List (List Int)} {m:Nat} (hT:dP T m) (hI:pf T m):∀(W:List Int),(∀z∈W,0≤z∧z < T.length)→∀x y:Int,0≤x∧x < m→0≤y∧y < m→dr T x W=dr T y W→x=y
 | [],_,x,y,_,_,h=>h
 | g :: r,hW,x,y,hx,hy,h=>by
  have hg:=hW g (by simp)
  have e:=ur hT hI r (fun z hz=>hW z (by simp [hz])) (aC (bn T g.toNat) x.toNat) (aC (bn T g.toNat) y.toNat) (hT.within g.toNat ae x.toNat ae) (hT.within g.toNat ae y.toNat ae) h
  have e1:=hI g.toNat ae x.toNat ae
  have e2:=hI g.toNat ae y.toNat ae
  rw [e] at e1
  omega
end Go.Proofs.YtekbhbcgoadciaaGreat
namespace Go.Proofs.YtekbhbcgoadciaaGreat
def lH (T:List (List Int)) (m:Nat) (g x:Nat):Nat:=if x < m then (aC (bn T g) x).toNat else x
section
variable {T:List (List Int)} {m:Nat}
theorem Dx (hT:dP T m) (hI:pf T m) (g x:Nat) (hg:g < T.length):lH T m g (lH T m g x)=x:=by
 unfold lH
 by_cases h:x < m
 ·rw [if_pos h]
  have h1:=hT.within g hg x h
  have h2:=hI g hg x h
  rw [if_pos ae,h2];rfl
 ·rw [if_neg h,if_neg h]
theorem yV:∀(w:List Nat) (x:Nat),¬x < m→cS (lH T m) x w=x
 | [],_,_=>rfl
 | g :: r,x,h=>by
  have e:lH T m g x=x:=if_neg h
  show cS (lH T m) (lH T m g x) r=x
  rw [e];exact yV r x h
theorem sN (hT:dP T m):∀(w:List Int) (x:Nat),bB T.length w→x < m→((cS (lH T m) x (w.map Int.toNat):Nat):Int)=dr T x w
 | [],_,_,_=>rfl
 | z :: r,x,hw,h=>by
  have hz:=hw z (by simp)
  have h1:=hT.within z.toNat ae x h
  have e:lH T m z.toNat x=(aC (bn T z.toNat) x).toNat:=if_pos h
  have ih:=sN hT r (aC (bn T z.toNat) x).toNat (fun y hy=>hw y (by simp [hy])) ae
  show ((cS (lH T m) (lH T m z.toNat x) (r.map Int.toNat):Nat):Int)=dr T (aC (bn T z.toNat) (x:Int).toNat) r
  rw [e,ih,Int.toNat_of_nonneg h1.1,Int.toNat_natCast]
theorem xZ (hT:dP T m) {w:List Int} {x:Nat} (hw:bB T.length w) (hx:x < m):∃y:Nat,dr T x w=(y:Int)∧y < m:=by
 have:=hT.lead (c:=(x:Int)) ⟨ae,ae⟩ hw
 exact ⟨(dr T x w).toNat,ae,ae⟩
theorem xh (hT:dP T m) (hI:pf T m):∀(w:List Int) (x y:Nat),bB T.length w→x < m→dr T x w=(y:Int)→dr T y w.reverse=(x:Int)
 | [],x,y,_,_,h=>by
  have:(x:Int)=y:=h
  show (y:Int)=x
  omega
 | z :: r,x,y,hw,hx,h=>by
  have hz:=hw z (by simp)
  have h1:=hT.within z.toNat ae x hx
  have h2:=hI z.toNat ae x hx
  have h:dr T (aC (bn T z.toNat) (x:Int).toNat) r=(y:Int):=h
  rw [Int.toNat_natCast,←Int.toNat_of_nonneg h1.1] at h
  have ih:=xh hT hI r (aC (bn T z.toNat) x).toNat y (fun a ha=>hw a (by simp [ha])) ae h
  rw [List.reverse_cons,jI,ih,Int.toNat_natCast]
  exact h2
end
section
variable {ng:Nat} {im:List (List Int)} {less:List Int}
theorem pP (hF:Full ng im less):dP (cj ng im less) (eU ng im less):=by
 refine ⟨fun k hk=> ?_,fun k hk x hx=> ?_⟩
 ·simp [cj] at hk
  simp [cj,bn,hk,eU]
 ·simp [cj] at hk
  rw [fx hx hk]
  exact ⟨(ix hF hx hk).1,(ix hF hx hk).2.1⟩
theorem qV:(cj ng im less).length=ng:=by simp [cj]
theorem Bu (hF:Full ng im less) (hB:fy ng im less []):pf (cj ng im less) (eU ng im less):=fun g hg x hx=>by
 rw [qV] at hg
 obtain ⟨t1,t2,_⟩:=ix hF hx hg
 rw [fx hx hg,fx ae hg]
 exact uq hF hB hx hg
theorem uU (hF:Full ng im less):∀k,k < eU ng im less→∃u,bB ng u∧dr (cj ng im less) (0:Nat) u=(k:Int):=by
 have hp:zl ng im less (bO ng im less):=qh hF _ _ _ (fg hF) fun k h1 h2=>by simp [dE] at h2;omega
 intro k
 induction k using Nat.strongRecOn with
 | _ k ih=>
  intro hk
  rcases Nat.eq_zero_or_pos k with rfl | h0
  ·exact ⟨[],fun _ h=>(by simp at h),rfl⟩
  ·obtain ⟨i,g,i1,i2,i3⟩:=hp k h0 hk
   obtain ⟨u,u1,u2⟩:=ih i i1 ae
   obtain ⟨hT,_⟩:=gL hF
   obtain ⟨d,d1,_,_,d4⟩:=hT.live k hk
   refine ⟨u ++ [(g:Int)],fun z hz=> ?_, ?_⟩
   ·rcases List.mem_append.1 hz with hz | hz
    ·exact u1 z hz
    ·simp at hz;omega
   ·rw [jI,u2,Int.toNat_natCast,Int.toNat_natCast,fx ae i2]
    unfold jN
    rw [i3,d1,Int.toNat_natCast,d4]
end
section
variable {ng:Nat} {R W R' W':List (List Int)}
structure CW (ng:Nat) (R W:List (List Int)):Prop where
 r:∀w∈R,bB ng w
 w:∀w∈W,bB ng w
 nf:(cm ng R W).2.2=false
theorem CW.full (h:CW ng R W):Full ng (cm ng R W).1 (cm ng R W).2.1:=gg h.r h.w h.nf
theorem CW.leads (h:CW ng R W):dP (qA ng R W) (tG ng R W):=pP h.full
theorem CW.DP (h:CW ng R W):pf (qA ng R W) (tG ng R W):=Bu h.full (ud h.r h.w).2
theorem mG:(qA ng R W).length=ng:=qV
end
end Go.Proofs.YtekbhbcgoadciaaGreat
namespace Go.Proofs.YtekbhbcgoadciaaGreat
theorem uA:∀(l1 l2:List Nat),l1.Nodup→(∀x∈l1,x∈l2)→l1.length≤l2.length
 | [],_,_,_=>by simp
 | x :: r,l2,h,hs=>by
  rw [List.nodup_cons] at h
  have hx:=hs x (by simp)
  have:=uA r (l2.erase x) h.2 fun y hy=>(List.mem_erase_of_ne (fun e:y=x=>h.1 (by rw [←e];exact hy))).2 (hs y (by simp [hy]))
  rw [List.length_erase_of_mem hx] at this
  have:=List.length_pos_of_mem hx
  simp;omega
theorem pR {σ:Nat→Nat} :∀ {l:List Nat},l.Nodup→(∀x∈l,∀y∈l,σ x=σ y→x=y)→(l.map σ).Nodup
 | [],_,_=>by simp
 | a :: r,h,hi=>by
  rw [List.nodup_cons] at h
  rw [List.map_cons,List.nodup_cons]
  refine ⟨fun hm=> ?_,pR h.2 fun x hx y hy=>hi x (by simp [hx]) y (by simp [hy])⟩
  obtain ⟨y,hy,e⟩:=List.mem_map.1 hm
  exact h.1 (hi y (by simp [hy]) a (by simp) e ▸ hy)
def wH (φ:Nat→Nat) (n j:Nat):List Nat:=(List.range n).filter fun x=>φ x == j
theorem oF {φ:Nat→Nat} {n j x:Nat} :x∈wH φ n j↔x < n∧φ x=j:=by simp [wH]
theorem BE (φ:Nat→Nat) (n j:Nat):(wH φ n j).Nodup:=List.nodup_range.filter _
theorem G7 {φ σ:Nat→Nat} {n j k:Nat} (hs:∀x,x < n→φ x=j→σ x < n∧φ (σ x)=k) (hi:∀x y,x < n→y < n→σ x=σ y→x=y):(wH φ n j).length≤(wH φ n k).length:=by
 have h:=uA ((wH φ n j).map σ) (wH φ n k) (pR (BE φ n j) fun x hx y hy=>hi x y (oF.1 hx).1 (oF.1 hy).1) fun z hz=>by
  obtain ⟨x,hx,rfl⟩:=List.mem_map.1 hz
  exact oF.2 (hs x (oF.1 hx).1 (oF.1 hx).2)
 simpa using h
def m5 (f:Nat→Nat):Nat→Nat
 | 0=>0
 | m + 1=>m5 f m + f m
theorem ye (f g:Nat→Nat):∀m,m5 (fun j=>f j + g j) m=m5 f m + m5 g m
 | 0=>rfl
 | m + 1=>by simp only [m5,ye f g m];omega
theorem pZ {f:Nat→Nat} :∀ {m:Nat},(∀j,j < m→f j=0)→m5 f m=0
 | 0,_=>rfl
 | m + 1,h=>by simp only [m5];rw [pZ fun j hj=>h j ae,h m ae]
theorem yg {c:Nat} :∀ {m:Nat},c < m→m5 (fun j=>if c=j then 1 else 0) m=1
 | m + 1,h=>by
  simp only [m5]
  by_cases e:c=m
  ·subst e;rw [if_pos rfl,pZ fun j hj=>if_neg ae]
  ·rw [if_neg e,yg ae]
theorem sW {f:Nat→Nat} {c:Nat} :∀ {m:Nat},(∀j,j < m→f j=c)→m5 f m=m * c
 | 0,_=>by simp [m5]
 | m + 1,h=>by
  simp only [m5]
  rw [sW fun j hj=>h j ae,h m ae,Nat.add_mul];omega
theorem si {f g:Nat→Nat} :∀ {m:Nat},(∀j,j < m→f j=g j)→m5 f m=m5 g m
 | 0,_=>rfl
 | m + 1,h=>by simp only [m5];rw [si fun j hj=>h j ae,h m ae]
theorem Bk {φ:Nat→Nat} {m:Nat} :∀(n:Nat),(∀x,x < n→φ x < m)→m5 (fun j=>(wH φ n j).length) m=n
 | 0,_=>pZ fun j _=>by simp [wH]
 | n + 1,h=>by
  have e:∀j,(wH φ (n + 1) j).length=(wH φ n j).length + if φ n=j then 1 else 0:=fun j=>by
   unfold wH
   rw [List.range_succ,List.filter_append,List.length_append]
   by_cases e:φ n=j<;>simp [e]
  rw [si fun j _=>e j,ye,Bk n fun x hx=>h x ae,yg (h n ae)]
section
variable {ng:Nat} {R W R' W':List (List Int)}
end
end Go.Proofs.YtekbhbcgoadciaaGreat
namespace Go.Proofs.YtekbhbcgoadciaaGreat
open Go.RowKit
theorem Fh:ET Tryz.prog 24 2 (.int .i64 0) 8:=⟨Tryz.underlying24,by kernel_rfl,rfl,ae⟩
end Go.Proofs.YtekbhbcgoadciaaGreat
namespace Go.Proofs.YtekbhbcgoadciaaGreat
open Go.RowKit
theorem ofInt_u64 (a:Nat) (ha:a < 18446744073709551616):(BitVec.ofInt 64 (a:Int)).toNat=a:=by
 rw [BitVec.ofInt_natCast,BitVec.toNat_ofNat];exact Nat.mod_eq_of_lt ae
theorem Ba (a:Nat) (ha:a≤1048576):bits .and .u64 (a:Int) 4294967295=(a:Int):=by
 show IntKind.u64.wrap ((BitVec.ofInt 64 (a:Int) &&& BitVec.ofInt 64 ((4294967295:Nat):Int)).toNat:Int)=_
 rw [BitVec.toNat_and,ofInt_u64 a ae,ofInt_u64 4294967295 ae,show (4294967295:Nat)=2 ^ 32 - 1 from rfl,Nat.and_two_pow_sub_one_eq_mod,Nat.mod_eq_of_lt ae]
 simp [IntKind.wrap,IntKind.signed,IntKind.bits];omega
theorem lA (a:Nat) (ha:a≤4294967295):IntKind.u64.wrap ((a:Nat):Int)=(a:Int):=by
 simp [IntKind.wrap,IntKind.signed,IntKind.bits];omega
theorem yI (a b:Nat) (w:World) (ha:a≤1048576) (hb:b≤1048576) (hab:a * b≤4294967295):
  Calls Tryz.prog 146 #[.int .u64 a, .int .u64 b] w fun e w'=>e= .returned (.tuple #[.int .u64 0, .int .u64 ((a * b:Nat):Int)])∧w=w':=by
 have e1:(a:Int) / 4294967296=0:=by omega
 have e2:(b:Int) / 4294967296=0:=by omega
 have e3:bits .and .u64 (a:Int) 4294967295=(a:Int):=Ba a ha
 have e4:bits .and .u64 (b:Int) 4294967295=(b:Int):=Ba b hb
 have e5:(a:Int) * (b:Int)=((a * b:Nat):Int):=by rw [Int.natCast_mul]
 have e6:IntKind.u64.wrap ((a:Int) * (b:Int))=((a * b:Nat):Int):=by rw [e5];exact lA _ hab
 have e7:((a:Int) * (b:Int)) / 4294967296=0:=by rw [e5];omega
 have e8:bits .and .u64 0 4294967295=0:=by decide +kernel
 have e9:IntKind.u64.wrap 0=0:=by decide +kernel
 have H6:=Lib.hid e6
 have H5:=Lib.hid e5
 clear e5 e6
 have e10:IntKind.u64.wrap ((a:Int) * (b:Int))=(a:Int) * (b:Int):=by rw [H6.out,H5.out]
 go_enter Tryz.func146,Tryz.ntmps146
 go_wp2
 go_ret2
 exact ⟨by simp,rfl⟩
def ez {α:Type} (zs:List α) (count:Nat):List α:=(List.replicate count zs).flatten
theorem mA {α:Type} (zs:List α) (count:Nat):(ez zs count).length=zs.length * count:=by
 unfold ez;rw [List.length_flatten];simp;exact Nat.mul_comm _ _
theorem sK {α:Type} (zs:List α) (a b:Nat):ez zs (a + b)=ez zs a ++ ez zs b:=by
 unfold ez;rw [←List.replicate_append_replicate,List.flatten_append]
theorem D8 {α:Type} (zs:List α):ez zs 1=zs:=by simp [ez]
theorem x7 {α:Type} {zs:List α} {count j c:Nat} (hj:j≤count) (hc:c≤zs.length * (count - j)):(ez zs count).take (zs.length * j + c)=(ez zs count).take (zs.length * j) ++ (ez zs count).take c:=by
 have h1:ez zs count=ez zs j ++ ez zs (count - j):=by rw [←sK];congr 1;omega
 have h2:ez zs count=ez zs (count - j) ++ ez zs j:=by rw [←sK];congr 1;omega
 have l1:=mA zs j
 have l2:=mA zs (count - j)
 have e3:(ez zs count).take c=(ez zs (count - j)).take c:=by rw [h2,List.take_append_of_le_length ae]
 have e4:(ez zs count).take (zs.length * j)=ez zs j:=by rw [h1,←l1,List.take_left'];rfl
 rw [e3,e4,h1,List.take_append,List.take_of_length_le ae]
 congr 2;omega
theorem td {α:Type} {R:List α} {z:α} {k c T:Nat} (hR:R.length=T) (hk:k + c≤T) (h:R.take (k + c)=R.take k ++ R.take c):splice (R.take k ++ List.replicate (T - k) z) k (R.take c)=R.take (k + c) ++ List.replicate (T - (k + c)) z:=by
 unfold splice
 have l1:(R.take k).length=k:=by simp;omega
 have l2:(R.take c).length=c:=by simp;omega
 rw [List.take_append_of_le_length ae,List.take_of_length_le ae,l2,List.drop_append,List.drop_of_length_le ae,l1,h]
 simp
 omega
theorem zQ {α β:Type} (f:α→β) (xs:List α) (k:Nat) (ys:List α):(splice xs k ys).map f=splice (xs.map f) k (ys.map f):=by
 unfold splice;simp
theorem Own.GF {w:World} {base E g T:Nat} {xs:List Value} (h:Own w base E (some ⟨g,0,none⟩) T T xs):w.heap[g]? =some (.cells xs.toArray E (0,0)):=by
 rcases h.1.2 with ⟨h2,_⟩ | ⟨g',cap,cur,hv,_,hh,_,_,hs,ht⟩
 ·cases h2
 ·injection hv with h1 h2 h3
  injection h1 with h1;injection h1 with h1
  subst h1 h3
  have:cur.toList=xs:=by rw [←ht,List.take_of_length_le];rw [Array.length_toList,hs];exact Nat.le_refl _
  rw [hh,←this,Array.toArray_toList]
theorem Own.of_heap {w w':World} {base E g T:Nat} {xs ys:List Value} (h:Own w base E (some ⟨g,0,none⟩) T T xs) (hh:w'.heap[g]? =some (.cells ys.toArray E (0,0))) (hl:ys.length=T):Own w' base E (some ⟨g,0,none⟩) T T ys:=by
 refine ⟨⟨by rw [hl,Nat.mul_one], .inr ⟨g,T,ys.toArray,rfl,(h.lt g rfl).1,hh,Nat.le_refl _,by have:=h.2;simp [maxLen];omega,by simp [hl], ?_⟩⟩,h.2⟩
 simp [←hl]
section
variable {P:Program} {ops:Array Oper} {rest:List Oper} {o:Oper} {a:Act} {Q:Exit→Act→World→Prop}
theorem BO {S E:TypeId} {z:Value} {bytes:Nat} (et:ET P S E z bytes) (w:World) (hg:o.guard=none) (d s:Operand) (ho:o.op= .call { callee:= .builtin .copy,args:= #[d,s],argTypes:= #[S,S] })
  (base g T off:Nat) (xs cs:List Value) (hown:Own w base E (some ⟨g,0,none⟩) T T xs) (dp:Option Addr) (dLen dCap:Nat) (hd:a.eval d= .slice dp dLen dCap) (sp:Option Addr) (sLen sCap:Nat) (hs:a.eval s= .slice sp sLen sCap)
  (hn:cs.length=Nat.min sLen dLen) (hpos:0 < cs.length→dp=some ⟨g,off,none⟩∧∃ad,sp=some ad∧∀j v,cs[j]? =some v→w.cell? (ad.add j)=some v) (hfit:off + cs.length≤T) (h1:∀v∈cs,v.oneCell'=true)
  (h:∀w',Own w' base E (some ⟨g,0,none⟩) T T (splice xs off cs)→Below g w w'→wpList P ops Q rest (a.put o.dst (goInt cs.length)) w'):wpList P ops Q (o :: rest) a w:=by
 obtain ⟨i,hi,hz,hsz,hby⟩:=info_parts et.info
 refine wpList_copy_splice hg d s S S ho E et.und (by rw [hi];simp [hsz]) dp sp dLen dCap sLen sCap hd hs g off xs E hown.GF cs hn hpos (by rw [hown.len];exact hfit) h1 g w (Below.refl _ _) (Nat.le_refl _) ?_
 intro w' hh hb
 exact h w' (hown.of_heap hh.out (by rw [length_splice _ _ _ (by rw [hown.len];exact hfit),hown.len])) hb
theorem FG {S E:TypeId} {z:Value} {bytes:Nat} (et:ET P S E z bytes) {w:World} {K:Act→World→Prop} {X:Prop} (hg:o.guard=none) (d s:Operand) (ho:o.op= .call { callee:= .builtin .copy,args:= #[d,s],argTypes:= #[S,S] })
  (base g T off:Nat) (xs cs:List Value) (hown:Own w base E (some ⟨g,0,none⟩) T T xs) (dp:Option Addr) (dLen dCap:Nat) (hd:a.eval d= .slice dp dLen dCap) (sp:Option Addr) (sLen sCap:Nat) (hs:a.eval s= .slice sp sLen sCap)
  (hn:cs.length=Nat.min sLen dLen) (hpos:0 < cs.length→dp=some ⟨g,off,none⟩∧∃ad,sp=some ad∧∀j v,cs[j]? =some v→w.cell? (ad.add j)=some v) (hfit:off + cs.length≤T) (h1:∀v∈cs,v.oneCell'=true)
  (h:∀w',Own w' base E (some ⟨g,0,none⟩) T T (splice xs off cs)→Below g w w'→K (a.put o.dst (goInt cs.length)) w'):if Region.wanted o (yielded ops a.tmps)=true then Oper.wp P o a w K Q else X:=by
 obtain ⟨i,hi,hz,hsz,hby⟩:=info_parts et.info
 refine step_copy_splice hg d s S S ho E et.und (by rw [hi];simp [hsz]) dp sp dLen dCap sLen sCap hd hs g off xs E hown.GF cs hn hpos (by rw [hown.len];exact hfit) h1 g w (Below.refl _ _) (Nat.le_refl _) ?_
 intro w' hh hb
 exact h w' (hown.of_heap hh.out (by rw [length_splice _ _ _ (by rw [hown.len];exact hfit),hown.len])) hb
end
theorem nG (ao:Option Addr) (n c count:Nat) (zs:List Int) (w:World) (h:dC w ao n zs) (hn:n≤1048576) (hc:count≤1048576) (hnc:n * count≤1048576) (hpos:0 < n * count):
  Calls Tryz.prog 118 #[.slice ao n c, .int .i64 count] w fun e w'=>∃ao' c',e= .returned (.slice ao' (n * count) c')∧Own w' w.heap.size 2 ao' (n * count) c' ((ez zs count).map (Value.int .i64))∧Below w.heap.size w w':=by
 have HL:=Lib.hid h.1
 have hn0:0 < n:=Nat.pos_of_mul_pos_right hpos
 have hc0:0 < count:=Nat.pos_of_mul_pos_left hpos
 have hle:n≤n * count:=Nat.le_mul_of_pos_right _ hc0
 obtain ⟨T,hT⟩:∃T,n * count=T:=⟨_,rfl⟩
 rw [hT] at hpos hle ⊢
 have HT:=Lib.hid hT
 have hT2:T≤1048576:=by omega
 clear hT hnc
 have hRl:((ez zs count)).length=T:=by rw [mA,HL.out,HT.out]
 have HR:=Lib.hid hRl
 clear hRl
 obtain ⟨b,off,rfl,hb0,hcells⟩:=h.Jm hn0
 obtain ⟨cs,hcs⟩:∃cs:List Value,cs=((ez zs count).take n).map (Value.int .i64):=⟨_,rfl⟩
 have hcl:cs.length=n:=by rw [hcs];simp [HR.out];omega
 have hc1:∀v∈cs,v.oneCell'=true:=by rw [hcs];exact ints_oneCell _ _
 have hcsv:∀j v,cs[j]? =some v→w.cell? ⟨b,off + j,none⟩=some v:=by
  intro j v hv
  have hj:j < n:=by have:=(List.getElem?_eq_some_iff.1 hv).1;omega
  have hrn:(ez zs count).take n=zs:=by
   have e:ez zs count=zs ++ ez zs (count - 1):=by
    have:count=1 + (count - 1):=by omega
    conv=>lhs;rw [this]
    rw [sK,D8]
   rw [e,←HL.out,List.take_left'];rfl
  rw [hcs,hrn,List.getElem?_map,List.getElem?_eq_getElem (by rw [HL.out];exact hj)] at hv
  rw [hcells j hj,←hv,cX (by rw [HL.out];exact hj)];rfl
 have HCS:=Lib.hid hcs
 have HCL:=Lib.hid hcl
 have HC1:=Lib.hid hc1
 have HCV:=Lib.hid hcsv
 have x1:=lA n ae
 have x2:=lA count ae
 clear hcs hcl hc1 hcsv hcells
 go_enter Tryz.func118,Tryz.ntmps118
 go_wp2_with (first | (go_at_call 146;refine (yI n count _ hn hc (by rw [HT.out];omega)).mono ?_;rintro e w' ⟨rfl,rfl⟩;rw [HT.out]) | (at_make;refine BZ Fh _ rfl _ _ rfl w.heap.size _ _ _ _ T rfl rfl rfl rfl ae (Nat.le_refl _) ?_;intro w1 hown hgrow hsz;have hb1:Below w.heap.size w w1:=(Below.refl _ _).grown hgrow (Nat.le_refl _) (by simp);clear hgrow) | (with_reducible refine BO (o:=⟨some 33,_,_,_,_,_⟩) Fh _ rfl (.tmp 31) (.tmp 32) rfl w.heap.size w.heap.size T 0 _ cs hown _ _ _ rfl _ _ _ rfl ?_ ?_ ?_ HC1.out ?_))
 ·rw [HCL.out];exact (Nat.min_eq_left hle).symm
 ·exact fun _ j v hv=>(hb1.cell (p:=⟨b,off + j,none⟩) hb0).trans (HCV.out j v hv)
 ·rw [HCL.out];omega
 intro w2 o2 b2
 have hb2:Below w.heap.size w w2:=hb1.trans b2
 have e0:splice (List.replicate T (Value.int .i64 0)) 0 cs=((ez zs count).take n ++ List.replicate (T - n) 0).map (Value.int .i64):=by
  rw [HCS.out,←List.map_replicate]
  have:=td (R:=ez zs count) (z:=(0:Int)) (k:=0) (c:=n) HR.out ae (by simp)
  simp only [List.take_zero,List.nil_append,Nat.zero_add,Nat.sub_zero] at this
  rw [←this]
  simp [splice]
 rw [e0] at o2
 rw [HCL.out]
 clear e0 hown hsz hb1 b2 HCV HC1 HCS HCL
 go_wp2
 go_loopw [8] (fun i wr=>∃k j:Nat,i= .int .i64 k∧0 < k∧k≤T∧(k=n * j∧j≤count∨k=T)∧Own wr w.heap.size 2 (some ⟨w.heap.size,0,none⟩) T T (((ez zs count).take k ++ List.replicate (T - k) 0).map (Value.int .i64))∧Below w.heap.size w wr) (fun i _=>T - (intOf i).toNat)
 case atStart=>exact ⟨n,1,by simp,hn0,hle, .inl ⟨ae,ae⟩,o2,hb2⟩
 case round=>
  obtain ⟨k,j,rfl,hk0,hkT,hkj,ho,hb⟩:=hrel
  clear o2 hb2
  have HK:=Lib.hid hkj
  clear hkj
  by_cases hlt:k < T
  ·obtain ⟨c2,hc2⟩:∃c2,c2=Nat.min k (T - k):=⟨_,rfl⟩
   have hc2a:c2≤k:=by rw [hc2];exact Nat.min_le_left _ _
   have hc2b:c2≤T - k:=by rw [hc2];exact Nat.min_le_right _ _
   have hc2c:0 < c2:=by rw [hc2];exact Nat.lt_min.2 ⟨hk0,ae⟩
   have hdb:(ez zs count).take (k + c2)=(ez zs count).take k ++ (ez zs count).take c2:=by
    rcases HK.out with ⟨e,hj⟩ | e
    ·have hx:c2≤zs.length * (count - j):=by rw [HL.out,Nat.mul_sub,HT.out,←e];exact hc2b
     have:=x7 (zs:=zs) hj hx
     rwa [HL.out,←e] at this
    ·omega
   obtain ⟨cs,hcs⟩:∃cs:List Value,cs=((ez zs count).take c2).map (Value.int .i64):=⟨_,rfl⟩
   have hcl:cs.length=c2:=by rw [hcs];simp [HR.out];omega
   have hc1:∀v∈cs,v.oneCell'=true:=by rw [hcs];exact ints_oneCell _ _
   have hcsv:∀j v,cs[j]? =some v→wr.cell? ⟨w.heap.size,j,none⟩=some v:=by
    intro j v hv
    have hj:j < c2:=by have:=(List.getElem?_eq_some_iff.1 hv).1;omega
    obtain ⟨g',eg, -, -, -,hcell, -⟩:=ho.form ae
    injection eg with eg;injection eg with eg;subst eg
    rw [hcell j ae,←hv,hcs,List.getElem?_map,List.getElem?_map,List.getElem?_append_left (by simp [HR.out];omega),List.getElem?_take,List.getElem?_take,if_pos ae,if_pos ae]
   have HD:=Lib.hid hdb
   have HC:=Lib.hid hcs
   have HCL:=Lib.hid hcl
   have HC1:=Lib.hid hc1
   have HCV:=Lib.hid hcsv
   have HC2:=Lib.hid hc2
   have hTk:((T - k:Nat):Int)=(T:Int) - k:=by omega
   clear hdb hcs hcl hc1 hcsv hc2 hTk
   go_wp2_with fail
   have HB:=Lib.hid hb
   have HS:=Lib.hid (show ((k:Nat):Int) + ((c2:Nat):Int)=((k + c2:Nat):Int) by omega)
   have hw:IntKind.i64.wrap (((k + c2:Nat):Nat):Int)=((k + c2:Nat):Int):=by simp [IntKind.wrap,IntKind.signed,IntKind.bits];omega
   have HW:=Lib.hid hw
   clear hw
   go_region_held3 (fun w'=>Below w.heap.size w w') (first | exact HB.out.drew | assumption) (first | (refine FG (o:=⟨some 45,_,_,_,_,_⟩) Fh rfl (.tmp 41) (.tmp 44) rfl w.heap.size w.heap.size T k _ cs (ho.drewN 1) _ _ _ rfl _ _ _ rfl ?_ ?_ ?_ HC1.out ?_;(rw [HCL.out,HC2.out]);(intro _;exact ⟨if_neg ae,_,rfl,fun j v hv=>by have hx:=HCV.out j v hv;by_cases e:j=0<;>simp_all [Addr.add]⟩);(rw [HCL.out];omega);intro w3 o3 b3;have b4:Below w.heap.size w w3:=HB.out.drew.trans b3))
   rw [HCL.out,HS.out,HW.out]
   have o4:Own w3 w.heap.size 2 (some ⟨w.heap.size,0,none⟩) T T (((ez zs count).take (k + c2) ++ List.replicate (T - (k + c2)) 0).map (Value.int .i64)):=by
    have e:=td (R:=ez zs count) (z:=(0:Int)) (k:=k) (c:=c2) HR.out ae HD.out
    rw [←e]
    rw [HC.out] at o3
    rw [zQ]
    exact o3
   go_roundw
   case rel=>
    refine ⟨_,_,_,_,_,_,_,_,_,_,_,_,_,_,⟨k + c2,2 * j,rfl,ae,ae, ?_,o4,b4⟩,rfl⟩
    rcases HK.out with ⟨e,hj⟩ | e
    ·by_cases hx:k≤T - k
     ·have hc2k:c2=k:=by rw [HC2.out];exact Nat.min_eq_left hx
      left
      have e2:n * (2 * j)=k + k:=by rw [e,Nat.mul_left_comm];omega
      refine ⟨ae, ?_⟩
      have:n * (2 * j)≤n * count:=by rw [HT.out];omega
      exact Nat.le_of_mul_le_mul_left this hn0
     ·have hc2k:c2=T - k:=by rw [HC2.out];exact Nat.min_eq_right ae
      right;omega
    ·omega
   case measure=>simp [intOf];omega
  ·obtain rfl:k=T:=by omega
   rw [Nat.sub_self,List.replicate_zero,List.append_nil,List.take_of_length_le (Nat.le_of_eq HR.out)] at ho
   go_wp2
   go_ret
   exact ⟨_,_,rfl,ho,hb⟩
end Go.Proofs.YtekbhbcgoadciaaGreat
namespace Go.Proofs.YtekbhbcgoadciaaGreat
open Go.RowKit
def kY (n lo hi:Int):Bool:=decide (lo≤n) && decide (n≤hi)
theorem fC {n lo hi:Int} :kY n lo hi=true↔lo≤n∧n≤hi:=by simp [kY]
theorem ir (n lo hi:Int) (w:World):Calls Tryz.prog 61 #[.int .i64 n, .int .i64 lo, .int .i64 hi] w fun e w'=>e= .returned (.bool (kY n lo hi))∧w'=w:=by
 by_cases h:lo≤n
 ·have h1:decide (lo≤n)=true:=by simpa using h
  go_enter Tryz.func61,Tryz.ntmps61
  go_wp2
  go_ret
  exact ⟨cx (by simp [kY,h]),rfl⟩
 ·have h1:decide (lo≤n)=false:=by simpa using h
  have h2:kY n lo hi=false:=by simp [kY,h1]
  have H2:=Lib.hid h2
  clear h2
  go_enter Tryz.func61,Tryz.ntmps61
  go_wp2
  go_ret
  exact ⟨cx H2.out.symm,rfl⟩
theorem gx (n lo hi:Int) (w:World):Calls Tryz.prog 105 #[.int .i64 n, .int .i64 lo, .int .i64 hi] w fun e w'=>e= .returned (.bool (kY n lo hi))∧w'=w:=by
 by_cases h:lo≤n
 ·have h1:decide (lo≤n)=true:=by simpa using h
  go_enter Tryz.func105,Tryz.ntmps105
  go_wp2
  go_ret
  exact ⟨cx (by simp [kY,h]),rfl⟩
 ·have h1:decide (lo≤n)=false:=by simpa using h
  have h2:kY n lo hi=false:=by simp [kY,h1]
  have H2:=Lib.hid h2
  clear h2
  go_enter Tryz.func105,Tryz.ntmps105
  go_wp2
  go_ret
  exact ⟨cx H2.out.symm,rfl⟩
def s9 (p:Int→Bool) (zs:List Int):Int:=match zs.findIdx? p with | some i=>i | none=> -1
theorem rA {p:Int→Bool} {zs:List Int} (h:zs.any p=false):s9 p zs= -1:=by
 have:zs.findIdx? p=none:=by rw [List.findIdx?_eq_none_iff];intro x hx;have:=(List.any_eq_false.1 h) x hx;simpa using this
 simp [s9,this]
theorem zi {p:Int→Bool} {zs:List Int} {k:Nat} (hk:k < zs.length) (hn:(zs.take k).any p=false) (hp:p (aC zs k)=true):s9 p zs=k:=by
 have:zs.findIdx? p=some k:=by
  rw [List.findIdx?_eq_some_iff_getElem]
  refine ⟨hk,by rw [←cX hk];exact hp,fun j hj=> ?_⟩
  have hx:zs[j]'ae∈zs.take k:=by rw [List.mem_take_iff_getElem];exact ⟨j,ae,rfl⟩
  have:=(List.any_eq_false.1 hn) _ hx
  simpa using this
 simp [s9,this]
theorem BH (p:Int→Bool) (zs:List Int):decide (0≤s9 p zs)=zs.any p:=by
 cases h:zs.any p with
 | false=>rw [rA h];rfl
 | true=>
  rw [decide_eq_true_iff]
  unfold s9
  cases h2:zs.findIdx? p with
  | some i=>exact Int.natCast_nonneg i
  | none=>
   rw [List.findIdx?_eq_none_iff] at h2
   obtain ⟨x,hx,hp⟩:=List.any_eq_true.1 h
   have:=h2 x hx
   simp [hp] at this
theorem tA (fn:Nat) (cap:Array Value) (p:Int→Bool) (ao:Option Addr) (n c:Nat) (zs:List Int) (w:World) (h:dC w ao n zs)
  (hcf:∀(args:Array Value) (w:World),(callFunc fn args).run Tryz.prog w= .ok (.enter fn args) w)
  (hf:∀j,j < n→∀w',Below w.heap.size w w'→Calls Tryz.prog fn (#[.int .i64 (aC zs j)] ++ cap) w' fun e w''=>e= .returned (.bool (p (aC zs j)))∧Below w'.heap.size w' w''):
  Calls Tryz.prog 137 #[.slice ao n c, .func (.func fn) #[] cap] w fun e w'=>e= .returned (.int .i64 (s9 p zs))∧Below w.heap.size w w':=by
 have hn:=h.2.1
 have HF:=Lib.hid hf
 clear hf
 go_enter Tryz.func137,Tryz.ntmps137
 go_wp2
 go_loopw [8] (fun i wr=>∃k:Nat,k≤n∧i= .int .i64 k∧(zs.take k).any p=false∧Below w.heap.size w wr) (fun i _=>n - (intOf i).toNat)
 case atStart=>exact ⟨0,Nat.zero_le _,rfl,by simp,Below.refl _ _⟩
 case round=>
  obtain ⟨k,hk,rfl,hpre,hb⟩:=hrel
  have HP:=Lib.hid hpre
  clear hpre
  by_cases hlt:k < n
  ·obtain ⟨b,off,rfl,hc⟩:=(h.below hb).at_ hlt
   have HH:=Lib.hid h
   clear h
   cases hp:p (aC zs k) with
   | true=>
    have HX:=Lib.hid hp
    clear hp
    go_wp2_with fail
    refine (HF.out k hlt _ hb).mono ?_
    rintro e w1 ⟨rfl,hb1⟩
    rw [HX.out]
    go_wp2
    go_ret
    exact ⟨mS (zi (by rw [HH.out.1];exact hlt) HP.out HX.out).symm,hb.trans (hb1.mono hb.size)⟩
   | false=>
    have HX:=Lib.hid hp
    clear hp
    go_wp2_with fail
    refine (HF.out k hlt _ hb).mono ?_
    rintro e w1 ⟨rfl,hb1⟩
    rw [HX.out]
    go_wp2
    go_roundw
    case rel=>exact ⟨k + 1,ae,by go_num,by rw [tQ (by rw [HH.out.1];exact hlt),HP.out,HX.out];rfl,hb.trans (hb1.mono hb.size)⟩
    case measure=>simp [intOf];omega
  ·obtain rfl:k=n:=by omega
   have hl:=h.1
   have HL:=Lib.hid hl
   clear hl
   go_wp2
   go_ret
   exact ⟨mS (rA (by have:=HP.out;rwa [List.take_of_length_le (Nat.le_of_eq HL.out)] at this)).symm,hb⟩
theorem kV (fn:Nat) (cap:Array Value) (p:Int→Bool) (ao:Option Addr) (n c:Nat) (zs:List Int) (w:World) (h:dC w ao n zs)
  (hcf:∀(args:Array Value) (w:World),(callFunc fn args).run Tryz.prog w= .ok (.enter fn args) w)
  (hf:∀j,j < n→∀w',Below w.heap.size w w'→Calls Tryz.prog fn (#[.int .i64 (aC zs j)] ++ cap) w' fun e w''=>e= .returned (.bool (p (aC zs j)))∧Below w'.heap.size w' w''):
  Calls Tryz.prog 107 #[.slice ao n c, .func (.func fn) #[] cap] w fun e w'=>e= .returned (.bool (zs.any p))∧Below w.heap.size w w':=by
 have HF:=Lib.hid hf
 clear hf
 go_enter Tryz.func107,Tryz.ntmps107
 go_wp2_with fail
 refine (tA fn cap p ao n c zs w h hcf HF.out).mono ?_
 rintro e w1 ⟨rfl,hb1⟩
 go_wp2
 go_ret
 exact ⟨cx (BH p zs),hb1⟩
end Go.Proofs.YtekbhbcgoadciaaGreat
namespace Go.Proofs.YtekbhbcgoadciaaGreat
open Go.RowKit
def eJ (z:Int):Bool:=z == 0 || kY z 2 32
def cw (zs:List Int):Bool:=zs.all eJ && decide (zs.length < 5)
theorem vA (ao:Option Addr) (n c:Nat) (zs:List Int) (w:World) (h:dC w ao n zs):
  Calls Tryz.prog 72 #[.slice ao n c] w fun e w'=>e= .returned (.bool (cw zs))∧w'=w:=by
 have hn:=h.2.1
 go_enter Tryz.func72,Tryz.ntmps72
 go_wp2
 go_loop [3] (fun i=>∃k:Nat,k≤n∧i= .int .i64 k∧(zs.take k).all eJ=true) (fun i=>n - (intOf i).toNat)
 case atStart=>exact ⟨0,Nat.zero_le _,rfl,by simp⟩
 case round=>
  obtain ⟨k,hk,rfl,hpre⟩:=hrel
  have HP:=Lib.hid hpre
  clear hpre
  by_cases hlt:k < n
  ·obtain ⟨b,off,rfl,hc⟩:=h.at_ hlt
   have hl:=h.1
   have HL:=Lib.hid hl
   clear hl h
   cases hp:eJ (aC zs k) with
   | true=>
    have HX:=Lib.hid hp
    by_cases h0:aC zs k=0
    ·have h1:(aC zs k != 0)=false:=by simp [h0]
     clear hp h0
     go_wp2
     go_round
     case rel=>exact ⟨k + 1,ae,by go_num,by rw [kB (by rw [HL.out];exact hlt),HP.out,HX.out];rfl⟩
     case measure=>simp [intOf];omega
    ·have h1:(aC zs k != 0)=true:=by simp [h0]
     have h2:kY (aC zs k) 2 32=true:=by unfold eJ at hp;simpa [h0] using hp
     have H2:=Lib.hid h2
     clear hp h0 h2
     go_wp2_with (go_at_call 105;refine (gx _ _ _ _).mono ?_;rintro e w' ⟨rfl,rfl⟩;rw [H2.out])
     go_round
     case rel=>exact ⟨k + 1,ae,by go_num,by rw [kB (by rw [HL.out];exact hlt),HP.out,HX.out];rfl⟩
     case measure=>simp [intOf];omega
   | false=>
    have HX:=Lib.hid hp
    have h1:(aC zs k != 0)=true:=by
     rw [bne_iff_ne];intro e;unfold eJ at hp;simp [e] at hp
    have h2:kY (aC zs k) 2 32=false:=by unfold eJ at hp;simp only [Bool.or_eq_false_iff] at hp;exact hp.2
    have H2:=Lib.hid h2
    clear hp h2
    go_wp2_with (go_at_call 105;refine (gx _ _ _ _).mono ?_;rintro e w' ⟨rfl,rfl⟩;rw [H2.out])
    go_ret
    exact ⟨cx (by unfold cw;rw [og (by rw [HL.out];exact hlt) HX.out];rfl),rfl⟩
  ·obtain rfl:k=n:=by omega
   have hl:=h.1
   have HL:=Lib.hid hl
   clear hl
   go_wp2
   go_ret
   exact ⟨cx (by have:=HP.out;rw [List.take_of_length_le (Nat.le_of_eq HL.out)] at this;unfold cw;rw [this,HL.out];simp;omega),rfl⟩
theorem qP (z:Int) (w:World):
  Calls Tryz.prog 108 #[.int .i64 z] w fun e w'=>e= .returned (.bool (!eJ z))∧w'=w:=by
 by_cases h0:z=0
 ·have h1:(z != 0)=false:=by simp [h0]
  have h2:eJ z=true:=by simp [eJ,h0]
  have H2:=Lib.hid h2
  clear h0 h2
  go_enter Tryz.func108,Tryz.ntmps108
  go_wp2
  go_ret
  exact ⟨cx (by rw [H2.out];rfl),rfl⟩
 ·have h1:(z != 0)=true:=by simp [h0]
  have h2:eJ z=kY z 2 32:=by simp [eJ,h0]
  have H2:=Lib.hid h2
  clear h0 h2
  go_enter Tryz.func108,Tryz.ntmps108
  go_wp2_with (go_at_call 61;refine (ir _ _ _ _).mono ?_;rintro e w' ⟨rfl,rfl⟩)
  go_ret
  exact ⟨cx (by rw [H2.out]),rfl⟩
theorem gT (ao:Option Addr) (n c:Nat) (zs:List Int) (w:World) (h:dC w ao n zs):
  Calls Tryz.prog 54 #[.slice ao n c] w fun e w'=>e= .returned (.bool (cw zs))∧Below w.heap.size w w':=by
 have hl:=h.1
 have HL:=Lib.hid hl
 clear hl
 have hany:zs.any (fun z=> !eJ z)= !(zs.all eJ):=by rw [List.any_eq_not_all_not];simp
 have HA:=Lib.hid hany
 clear hany
 by_cases hs:n < 5
 ·have h1:decide ((n:Int) < 5)=true:=by simp;omega
  go_enter Tryz.func54,Tryz.ntmps54
  go_wp2_with fail
  refine (kV 108 #[] (fun z=> !eJ z) ao n c zs w h (fun _ _=>by rfl) (fun j hj w' hb=>(qP _ w').mono ?_)).mono ?_
  ·rintro e w1 ⟨rfl,rfl⟩;exact ⟨rfl,Below.refl _ _⟩
  rintro e w1 ⟨rfl,hb⟩
  go_wp2
  go_ret
  exact ⟨cx (by rw [HA.out];unfold cw;rw [HL.out];simp [hs]),hb⟩
 ·have h1:decide ((n:Int) < 5)=false:=by simp;omega
  go_enter Tryz.func54,Tryz.ntmps54
  go_wp2
  go_ret
  exact ⟨cx (by unfold cw;rw [HL.out];simp;intro _;omega),Below.refl _ _⟩
end Go.Proofs.YtekbhbcgoadciaaGreat
namespace Go.Proofs.YtekbhbcgoadciaaGreat
open Go.RowKit
end Go.Proofs.YtekbhbcgoadciaaGreat
