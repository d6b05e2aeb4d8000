/- Words for the walks of this seat: integer slices that are read, rows that a call owns, and the walk's laws on make and append in those words. No program in sight. -/
import Derived.WalkKit
import Derived.WalkSpells
import Derived.WalkLawsBesides
import Derived.Lib.Hide
import Derived.BigQuiet
import Derived.Deep.QuietTactic
import Derived.Deep.Draws
import Derived.Deep.AppendLies
import Derived.Maps.AppendAt
import Derived.Test.YtekbhbcgoadciaaGreatRows
import Derived.ProofKit
import Derived.OpenShut
import Derived.SizedLaws
import Derived.ChangeSame
import Derived.Deep.Slices
import Derived.Test.YtekbhbcgoadciaaGreatProg
import Derived.RegionTactic
import Derived.Deep.RegionLaw
set_option maxRecDepth 100000
set_option maxHeartbeats 6400000
namespace Go.Proofs.YtekbhbcgoadciaaGreat
theorem ab.{u} {α:Sort u} {a b:α} (h:a=b:=by as_aux_lemma=>kernel_rfl):a=b:=h
theorem a8 {p:Prop} (h:p:=by first | exact Nat.le_refl _ | exact Nat.le_of_eq (bc _).symm | exact Nat.le_of_eq (cZ _).symm | (refine Nat.le_trans ?_ (Nat.le_of_eq (bc _).symm);(first | omega | (simp;done) | (simp;omega))) | (refine Nat.le_trans ?_ (Nat.le_of_eq (cZ _).symm);(first | omega | (simp;done) | (simp;omega)))):p:=h
theorem aQ {p:Prop} (h:p:=by first | assumption | exact bl (by assumption) | exact cf (by assumption) | exact bl (by omega) | exact cf (by omega) | rfl):p:=h
theorem aJ {p:Prop} (h:p:=by first | assumption | omega | (simp;omega)):p:=h
theorem a9 {p:Prop} (h:p:=by first | rfl | exact (Int.toNat_of_nonneg (by omega)).symm):p:=h
theorem bA {p:Prop} (h:p:=by first | exact IntWalk.i64_in _ (by omega) | rfl):p:=h
theorem c8 {p:Prop} (h:p:=by first | exact bc _ | assumption | rfl):p:=h
theorem ae {p:Prop} (h:p:=by omega):p:=h
theorem J3 {p:Prop} (h:p:=by assumption):p:=h
theorem ag:True:=trivial
open Go.RowKit
def aC (zs:List Int) (k:Nat):Int:=zs.getD k 0
theorem cX {zs:List Int} {k:Nat} (h:k < zs.length):aC zs k=zs[k]:=by simp [aC,h]
theorem eH {zs:List Int} {k:Nat} (h:k < zs.length):aC zs k∈zs:=by rw [cX h];exact List.getElem_mem h
theorem iq {zs:List Int} {k:Nat} (h:k < zs.length):zs.take (k + 1)=zs.take k ++ [aC zs k]:=by
 rw [List.take_succ_eq_append_getElem h,cX h]
theorem nY {za zb:List Int} (hl:za.length=zb.length) (h:∀k,k < za.length→aC za k=aC zb k):za=zb:=by
 apply List.ext_getElem hl
 intro k h1 h2
 rw [←cX h1,←cX h2];exact h k h1
theorem kB {zs:List Int} {p:Int→Bool} {k:Nat} (h:k < zs.length):(zs.take (k + 1)).all p=((zs.take k).all p && p (aC zs k)):=by
 rw [iq h,List.all_append];simp
theorem tQ {zs:List Int} {p:Int→Bool} {k:Nat} (h:k < zs.length):(zs.take (k + 1)).any p=((zs.take k).any p || p (aC zs k)):=by
 rw [iq h,List.any_append];simp
theorem og {zs:List Int} {p:Int→Bool} {k:Nat} (h:k < zs.length) (hp:p (aC zs k)=false):zs.all p=false:=by
 rw [List.all_eq_false];exact ⟨_,eH h,by simp [hp]⟩
def bk (ao:Option Addr):Option Nat:=ao.map (·.block)
theorem cr (ao:Option Addr) (n c:Nat):(Value.slice ao n c).ownBlock=bk ao:=by cases ao<;>rfl
def Jz (w:World) (ao:Option Addr) (n:Nat) (xs:List Value):Prop:=
 xs.length=n∧n≤17592186044416∧(0 < n→∃b off,ao=some ⟨b,off,none⟩∧∀j u,xs[j]? =some u→w.cell? ⟨b,off + j,none⟩=some u)
def dC (w:World) (ao:Option Addr) (n:Nat) (zs:List Int):Prop:=
 zs.length=n∧n≤17592186044416∧(0 < n→∃b off,ao=some ⟨b,off,none⟩∧∀j,j < n→w.cell? ⟨b,off + j,none⟩=some (.int .i64 (aC zs j)))
theorem dC.at_ {w:World} {ao:Option Addr} {n:Nat} {zs:List Int} (h:dC w ao n zs) {k:Nat} (hk:k < n):
  ∃b off,ao=some ⟨b,off,none⟩∧w.cell? ⟨b,off + k,none⟩=some (.int .i64 (aC zs k)):=by
 obtain ⟨b,off,e,hc⟩:=h.2.2 ae
 exact ⟨b,off,e,hc k hk⟩
theorem dC.Jm {w:World} {ao:Option Addr} {n:Nat} {zs:List Int} (h:dC w ao n zs) (hn:0 < n):
  ∃b off,ao=some ⟨b,off,none⟩∧b < w.heap.size∧∀j,j < n→w.cell? ⟨b,off + j,none⟩=some (.int .i64 (aC zs j)):=by
 obtain ⟨b,off,e,hc⟩:=h.2.2 hn
 exact ⟨b,off,e,World.block_lt_of_cell? w _ (hc 0 hn),hc⟩
theorem dC.bR {w:World} {ao:Option Addr} {n:Nat} {zs:List Int} (h:dC w ao n zs):Jz w ao n (zs.map (Value.int .i64)):=by
 refine ⟨by simpa using h.1,h.2.1,fun hn=> ?_⟩
 obtain ⟨b,off,e,hc⟩:=h.2.2 hn
 refine ⟨b,off,e,fun j u hu=> ?_⟩
 have hl:=h.1
 have hj:j < zs.length:=by have:=(List.getElem?_eq_some_iff.1 hu).1;simpa using this
 rw [hc j ae,←hu,List.getElem?_map,List.getElem?_eq_getElem hj,cX hj];rfl
theorem dC.same {w w':World} {ao:Option Addr} {n:Nat} {zs:List Int} (h:dC w ao n zs) (hs:∀g,bk ao=some g→g < w.heap.size→w'.heap[g]? =w.heap[g]?):dC w' ao n zs:=by
 refine ⟨h.1,h.2.1,fun hn=> ?_⟩
 obtain ⟨b,off,rfl,hb,hc⟩:=h.Jm hn
 exact ⟨b,off,rfl,fun j hj=>(World.cell?_of_block (hs b rfl hb)).trans (hc j hj)⟩
theorem dC.below {w w':World} {ao:Option Addr} {n:Nat} {zs:List Int} (h:dC w ao n zs) (hb:Below w.heap.size w w'):dC w' ao n zs:=
 h.same fun g _ hg=>hb.block g hg
theorem dC.Fj {w:World} {n:Nat} {zs:List Int} (h:dC w none n zs):n=0∧zs= []:=by
 rcases Nat.eq_zero_or_pos n with h0 | h0
 ·exact ⟨h0,List.eq_nil_of_length_eq_zero (h.1.trans h0)⟩
 ·obtain ⟨b,off,e,_⟩:=h.2.2 h0
  cases e
def Own (w:World) (base E:Nat) (ao:Option Addr) (n c:Nat) (xs:List Value):Prop:=
 w.ownsRow base E 1 (.slice ao n c) n xs∧n≤4398046511104
section
variable {w w':World} {base E:Nat} {ao:Option Addr} {n c:Nat} {xs:List Value} {row:Option Nat}
theorem Own.len (h:Own w base E ao n c xs):xs.length=n:=by have:=h.1.1;omega
theorem Own.lt (h:Own w base E ao n c xs):∀g,bk ao=some g→base≤g∧g < w.heap.size:=by
 have:=h.1.lt
 rw [cr] at this;exact this
theorem Own.drewN (h:Own w base E ao n c xs) (m:Nat):Own (w.drewN m) base E ao n c xs:=h
theorem Own.same (h:Own w base E ao n c xs) (hs:∀g,bk ao=some g→w'.heap[g]? =w.heap[g]?):Own w' base E ao n c xs:=by
 refine ⟨⟨h.1.1, ?_⟩,h.2⟩
 rcases h.1.2 with h2 | ⟨g,cap,cur,hv,hg,hh,r⟩
 ·exact Or.inl h2
 ·refine Or.inr ⟨g,cap,cur,hv,hg, ?_,r⟩
  have:bk ao=some g:=by injection hv with h1;subst h1;rfl
  rw [hs g this];exact hh
theorem Own.below (h:Own w base E ao n c xs) (hb:Below w.heap.size w w'):Own w' base E ao n c xs:=
 h.same fun g hg=>hb.block g (h.lt g hg).2
theorem Own.alloc (h:Own w base E ao n c xs) (o:Obj):Own (w.alloc o) base E ao n c xs:=⟨h.1.alloc o,h.2⟩
theorem Own.mono (h:Own w base E ao n c xs) {base':Nat} (hb:base'≤base):Own w base' E ao n c xs:=by
 refine ⟨⟨h.1.1, ?_⟩,h.2⟩
 rcases h.1.2 with h2 | ⟨g,cap,cur,hv,hg,r⟩
 ·exact Or.inl h2
 ·exact Or.inr ⟨g,cap,cur,hv,ae,r⟩
theorem Own.form (h:Own w base E ao n c xs) (hn:0 < n):∃g,ao=some ⟨g,0,none⟩∧base≤g∧g < w.heap.size∧n≤c∧(∀j,j < n→w.cell? ⟨g,j,none⟩=xs[j]?)∧(∀j,w.frozen? ⟨g,j,none⟩=false):=by
 obtain ⟨g,cap,hv,hb,hlt⟩:=h.1.form hn
 injection hv with h1 _ h2
 subst h1 h2
 refine ⟨g,rfl,hb,hlt, ?_,fun j hj=>h.1.cellAt j ae,fun j=>h.1.frozenAt j⟩
 rcases h.1.2 with ⟨h2,_⟩ | ⟨g',cap',cur,hv,_,_,hnc,_⟩
 ·cases h2
 ·injection hv with _ _ h3;subst h3;exact hnc
theorem Own.stored {g:Nat} (h:Own w base E (some ⟨g,0,none⟩) n c xs) (k:Nat) (u:Value):
  Own (w.setCell ⟨g,k,none⟩ u) base E (some ⟨g,0,none⟩) n c (xs.set k u)∧w.grownBy (w.setCell ⟨g,k,none⟩ u) (some g):=
 ⟨⟨(h.1.stored k u).1,h.2⟩,(h.1.stored k u).2⟩
theorem Own.lf (w:World) {base:Nat} (E:Nat) (hb:base≤w.heap.size):Own (w.alloc (.cells #[] E)) base E (some ⟨w.heap.size,0,none⟩) 0 0 []:=⟨World.ownsRow_made w #[] 0 hb (by simp [maxLen]) rfl,ae⟩
theorem Own.Ex (w:World) (base E:Nat):Own w base E none 0 0 []:=⟨World.ownsRow_nil w base E 1,ae⟩
end
theorem Own.ints {w:World} {base E:Nat} {ao:Option Addr} {n c:Nat} {zs:List Int} (h:Own w base E ao n c (zs.map (Value.int .i64))):dC w ao n zs:=by
 have hl:zs.length=n:=by have:=h.len;simpa using this
 refine ⟨hl,by have:=h.2;omega,fun hn=> ?_⟩
 obtain ⟨g,rfl,_,_,_,hc,_⟩:=h.form hn
 refine ⟨g,0,rfl,fun j hj=> ?_⟩
 rw [Nat.zero_add,hc j hj,List.getElem?_map,List.getElem?_eq_getElem ae,cX ae];rfl
structure ET (P:Program) (S E:TypeId) (z:Value) (bytes:Nat):Prop where
 und:P.underlying S=some (.slice E)
 info:(P.info? E).map (fun i=>(i.zero,i.size,i.bytes))=some (some z,1,bytes)
 one:z.cells= #[z]
 small:bytes≤32
theorem jG {w w':World} (h:Below w.heap.size w w') (row:Option Nat):w.grownBy w' row:=⟨h.os,h.tape,h.output,h.size,fun i hi _=>h.block i hi⟩
theorem gh {a b c:World} {row:Option Nat} (h:a.grownBy b row) (k:b.grownBy c row):a.grownBy c row:=
 ⟨k.os.trans h.os,k.tape.trans h.tape,k.output.trans h.output,Nat.le_trans h.size k.size,fun i hi hne=>(k.block i (Nat.lt_of_lt_of_le hi h.size) hne).trans (h.block i hi hne)⟩
theorem below_drewN {B:Nat} {a w:World} (h:Below B a w) (n:Nat):Below B a (w.drewN n):=⟨h.os,h.tape,h.output,h.size,h.block⟩
theorem jy {B:Nat} {w w':World} (h:∃m,w'=w.drewN m):Below B w w':=by
 obtain ⟨m,rfl⟩:=h;exact below_drewN (Below.refl _ _) m
theorem Bm {w:World} {base E g:Nat} {us:List Value} (hg:w.heap.size=g) (hb:base≤w.heap.size) (hn:us.length≤4398046511104):Own (w.alloc (.cells us.toArray E)) base E (some ⟨g,0,none⟩) us.length us.length us:=by
 subst hg
 exact ⟨by simpa using World.ownsRow_lit (e:=E) (size:=1) w us.toArray us.length hb (by simp [maxLen];omega) (by simp),hn⟩
section
variable {P:Program} {ops:Array Oper} {rest:List Oper} {o:Oper} {a:Act} {Q:Exit→Act→World→Prop}
theorem BZ {S E:TypeId} {z:Value} {bytes:Nat} (et:ET P S E z bytes) (w:World) (hg:o.guard=none) (l c:Operand) (hop:o.op=Op.makeSlice S l c) (base:Nat)
  (kl kc:IntKind) (L C:Int) (n:Nat) (hl:a.eval l= .int kl L) (hc:a.eval c= .int kc C) (hL:L=(n:Int)) (hC:C=(n:Int)) (hn:n≤4398046511104) (hb:base≤w.heap.size)
  (hK:∀w',Own w' base E (some ⟨w.heap.size,0,none⟩) n n (List.replicate n z)→w.grownBy w' none→w'.heap.size=w.heap.size + 1→wpList P ops Q rest (a.put o.dst (.slice (some ⟨w.heap.size,0,none⟩) n n)) w'):
  wpList P ops Q (o :: rest) a w:=by
 obtain ⟨i,hi,hz,hs,hby⟩:=info_parts et.info
 refine wpList_plain hg fun K hK'=> ?_
 have hr:=run_make (P:=P) w S E i z et.und hi hz kl kc (n:Int) (n:Int) ae ae (by have:=et.small;rw [hby];have:(bytes:Int) * n≤32 * n:=Int.mul_le_mul_of_nonneg_right ae ae;omega) ae
 simp only [Int.toNat_natCast] at hr
 subst hL;subst hC
 unfold Oper.wp
 simp [execOp,hop,hl,hc,hr,Result.andThen]
 refine hK' _ _ (hK _ ⟨?_,hn⟩ (World.grownBy_alloc w _ none) (by simp))
 have:=World.ownsRow_lit (e:=E) (size:=i.size) w (madeCells z.cells (n * i.size)) n hb (by simp [maxLen];omega) (size_madeCells _ _)
 rw [hs,et.one,Nat.mul_one,toList_madeCells_one] at this
 rw [et.one,hs,Nat.mul_one]
 exact this
theorem lC {S E:TypeId} {z:Value} {bytes:Nat} (et:ET P S E z bytes) (w:World) (hg:o.guard=none) (s x:Operand) (ho:o.op= .call { callee:= .builtin .append,args:= #[s,x],argTypes:= #[S,S] })
  (base:Nat) (ao:Option Addr) (n c:Nat) (xs:List Value) (hs:a.eval s= .slice ao n c) (hown:Own w base E ao n c xs) (u:Value)
  (hx:a.eval x= .slice (some ⟨w.heap.size,0,none⟩) 1 1) (hu:u.oneCell'=true) (hn:n + 1≤4398046511104) (hbase:base≤w.heap.size)
  (hK:∀ao' c' w',Own w' base E ao' (n + 1) c' (xs ++ [u])→w.grownBy w' (bk ao)→(bk ao'=bk ao∨bk ao'=some (w.heap.size + 1))→wpList P ops Q rest (a.put o.dst (.slice ao' (n + 1) c')) w'):
  wpList P ops Q (o :: rest) a (w.alloc (.cells #[u] E)):=by
 obtain ⟨i,hi,hz,hsz,hby⟩:=info_parts et.info
 refine wpList_append_own_at _ hg s x S ho base E i z 1 bytes et.und hi hz hsz hby (by rw [et.one];rfl) ae (.slice ao n c) n xs hs (hown.1.alloc _) ⟨w.heap.size,0,none⟩ 1 1 [u] hx rfl (cell_one_new _ _ _)
  (by intro v hv;simp at hv;subst hv;exact hu) (by simp [maxLen];omega) (by have:=et.small;have:(n + 1) * bytes≤(n + 1) * 32:=Nat.mul_le_mul_left _ this;omega) (by simp;omega) ?_
 intro v' w' h1 h2 _ h4
 rw [cr] at h2 h4
 obtain ⟨g,cap,rfl,hb,hlt⟩:=h1.form ae
 refine hK _ _ _ ⟨h1,hn⟩ (gh (World.grownBy_alloc w _ _) h2) ?_
 rw [cr] at h4
 simpa using h4
theorem zN {S E:TypeId} {z:Value} {bytes:Nat} (et:ET P S E z bytes) (w:World) (hg:o.guard=none) (s x:Operand) (ho:o.op= .call { callee:= .builtin .append,args:= #[s,x],argTypes:= #[S,S] })
  (base:Nat) (ao:Option Addr) (n c:Nat) (xs:List Value) (hs:a.eval s= .slice ao n c) (hown:Own w base E ao n c xs) (ad:Option Addr) (m mc:Nat) (news:List Value)
  (hx:a.eval x= .slice ad m mc) (hr:Jz w ad m news) (h1:∀u∈news,u.oneCell'=true) (hn:n + m≤4398046511104) (hbase:base≤w.heap.size)
  (hK:∀ao' c' w',Own w' base E ao' (n + m) c' (xs ++ news)→w.grownBy w' (bk ao)→(bk ao'=bk ao∨bk ao'=some w.heap.size)→wpList P ops Q rest (a.put o.dst (.slice ao' (n + m) c')) w'):
  wpList P ops Q (o :: rest) a w:=by
 obtain ⟨i,hi,hz,hsz,hby⟩:=info_parts et.info
 rcases Nat.eq_zero_or_pos m with h0 | h0
 ·subst h0
  have hz0:news= []:=List.eq_nil_of_length_eq_zero hr.1
  subst hz0
  cases ad with
  | none=>
   have hrun:(Builtin.append_ #[S,S] o.type #[.slice ao n c, .slice none 0 mc]).run P w= .ok (.slice ao n c) w:=by
    rcases hown.1.2 with ⟨hv,rfl⟩ | ⟨g,cap,cur,hv,_,_,hnc,_⟩
    ·rw [hv];simp [Builtin.append_,run_underlying et.und,sizeOf,typeInfo,hi,Builtin.lenOf,Builtin.firstCells]
    ·rw [hv];simp [Builtin.append_,run_underlying et.und,sizeOf,typeInfo,hi,Builtin.lenOf,Builtin.firstCells,hnc,storeCells]
   refine wpList_plain hg fun K hK'=> ?_
   unfold Oper.wp execOp
   simp only [ho,resolve,invoke,builtin,Sem.run_bind,Sem.run_pure,Result.andThen_ok,List.map_toArray,List.map_cons,List.map_nil,hs,hx,hrun]
   exact hK' _ _ (hK ao c w (by simpa using hown) (World.grownBy.refl w _) (.inl rfl))
  | some ad=>
   refine wpList_append_own_at _ hg s x S ho base E i z 1 bytes et.und hi hz hsz hby (by rw [et.one];rfl) ae (.slice ao n c) n xs hs hown.1 ad 0 mc [] hx rfl (by intro j u hu;simp at hu)
    (by intro v hv;simp at hv) (by simp [maxLen];omega) (by have:=et.small;have:(n + 0) * bytes≤(n + 0) * 32:=Nat.mul_le_mul_left _ this;omega) hbase ?_
   intro v' w' h1 h2 h3 h4
   rw [cr] at h2 h4
   rcases h1.2 with ⟨rfl,hn0⟩ | ⟨g,cap,cur,rfl,_,_,_,_⟩
   ·have h5:=h3.1 rfl
    obtain ⟨h5,_⟩:=h5
    injection h5 with h5 h6 h7
    subst h5 h6 h7
    exact hK none 0 w' ⟨by simpa using h1,ae⟩ h2 (.inl rfl)
   ·refine hK _ _ _ ⟨by simpa using h1,hn⟩ h2 ?_
    rw [cr] at h4;exact h4
 ·obtain ⟨b,off,rfl,hc⟩:=hr.2.2 h0
  have hl:=hr.1
  refine wpList_append_own_at _ hg s x S ho base E i z 1 bytes et.und hi hz hsz hby (by rw [et.one];rfl) ae (.slice ao n c) n xs hs hown.1 ⟨b,off,none⟩ m mc news hx (by simp [hl])
   (by
    intro j u hu
    rw [Addr.add_lit];exact hc j u hu)
   h1 (by simp [maxLen];omega) (by have:=et.small;have:(n + m) * bytes≤(n + m) * 32:=Nat.mul_le_mul_left _ this;omega) hbase ?_
  intro v' w' h1 h2 _ h4
  rw [cr] at h2 h4
  obtain ⟨g,cap,rfl,hb,hlt⟩:=h1.form ae
  refine hK _ _ _ ⟨h1,hn⟩ h2 ?_
  rw [cr] at h4
  simpa using h4
theorem nR {S E:TypeId} {z:Value} {bytes:Nat} (et:ET P S E z bytes) (w:World) (hg:o.guard=none) (s x:Operand) (ho:o.op= .call { callee:= .builtin .append,args:= #[s,x],argTypes:= #[S,S] })
  (base:Nat) (ao:Option Addr) (n c:Nat) (xs:List Value) (hs:a.eval s= .slice ao n c) (hown:Own w base E ao n c xs) (ad:Option Addr) (m mc:Nat) (zs:List Int)
  (hx:a.eval x= .slice ad m mc) (hr:dC w ad m zs) (hn:n + m≤4398046511104) (hbase:base≤w.heap.size)
  (hK:∀ao' c' w',Own w' base E ao' (n + m) c' (xs ++ zs.map (Value.int .i64))→w.grownBy w' (bk ao)→(bk ao'=bk ao∨bk ao'=some w.heap.size)→wpList P ops Q rest (a.put o.dst (.slice ao' (n + m) c')) w'):
  wpList P ops Q (o :: rest) a w:=
 zN et w hg s x ho base ao n c xs hs hown ad m mc (zs.map (Value.int .i64)) hx hr.bR (ints_oneCell _ _) hn hbase hK
end
structure fw (lo hi:Nat) (w w':World):Prop where
 os:w'.os=w.os
 tape:w'.tape=w.tape
 output:w'.output=w.output
 size:w.heap.size≤w'.heap.size
 block:∀k,k < w.heap.size→(k < lo∨hi≤k)→w'.heap[k]? =w.heap[k]?
theorem fw.below {lo hi:Nat} {w w':World} (h:fw lo hi w w') {B:Nat} (hB:B≤lo) (hw:B≤w.heap.size):Below B w w':=⟨h.os,h.tape,h.output,h.size,fun k hk=>h.block k ae (.inl ae)⟩
theorem fw.Da {lo hi:Nat} {w w':World} {row:Option Nat} (h:w.grownBy w' row) (hr:∀g,row=some g→lo≤g∧g < hi):fw lo hi w w':=
 ⟨h.os,h.tape,h.output,h.size,fun k hk hd=>h.block k hk (fun e=>by have:=hr k e.symm;omega)⟩
theorem fw.refl (lo hi:Nat) (w:World):fw lo hi w w:=⟨rfl,rfl,rfl,Nat.le_refl _,fun _ _ _=>rfl⟩
theorem fw.trans {lo hi:Nat} {a b c:World} (h:fw lo hi a b) (k:fw lo hi b c):fw lo hi a c:=
 ⟨k.os.trans h.os,k.tape.trans h.tape,k.output.trans h.output,Nat.le_trans h.size k.size,fun i hi hd=>(k.block i (Nat.lt_of_lt_of_le hi h.size) hd).trans (h.block i hi hd)⟩
theorem mS {k:IntKind} {a b:Int} (h:a=b):Ending.returned (.int k a)= .returned (.int k b):=by rw [h]
theorem cx {a b:Bool} (h:a=b):Ending.returned (.bool a)= .returned (.bool b):=by rw [h]
end Go.Proofs.YtekbhbcgoadciaaGreat
namespace Go.Proofs.YtekbhbcgoadciaaGreat
open Go.ChangeShapes Go.WideShapes Go.ChangeAt Go.RowKit Go.Deep
section
variable {H:Type} {enc:TypeId×Value→H} {P:Program}
theorem tK {f:Func} {s:ChangeSpec} {apart fresh handsOn again:Bool} {W W':World} {args:Array Value} {v:Value} {ds gs:List (DataW H)} {before pa pv:List MemPlace}
  (hW:DataW.Whole enc P f.params.toList s.vars apart W args.toList ds gs before)
  (hres:∀(b:Nat) (sp:Nat→Bool) (hd:Bool),DataW.TrodAll enc P W' b sp hd f.resultTypes.toList (v.resultList f.resultTypes.size) (s.fn H (ds ++ gs)).results [])
  (hargs:∀sp:Nat→Bool,(∀p∈before,sp p.block=true)→DataW.TrodAll enc P W' 0 sp true f.params.toList args.toList (s.fn H (ds ++ gs)).args pa)
  (hvars:∀sp:Nat→Bool,(∀p∈before,sp p.block=true)→DataW.TrodVars enc P W' sp s.vars (s.fn H (ds ++ gs)).vars pv)
  (hps:before=pa ++ pv) (hb:Below W.heap.size W W')
  (hok:∀(j:Nat) (t:TypeId) (r:Value),f.resultTypes[j]? =some t→(v.resultList f.resultTypes.size)[j]? =some r→Value.okWide P W' .any 0 t r):
  s.post enc P f apart fresh handsOn again W args v W':=by
 have hlt:∀p∈before,p.block < W.heap.size:=fun p hp=>hW.lt p hp
 have hold:∀p∈before,(fun b=>decide (b < W.heap.size)) p.block=true:=fun p hp=>by simpa using hlt p hp
 refine ⟨ds,gs,before, [],pa,pv,hW,hres _ _ _,hargs _ hold,hvars _ hold,World.keptBut_mono (fun p hp=>⟨hp, ?_⟩) (hb.frame (· ∈before)),fun _=> ?_⟩
 ·rw [hps,List.mem_append] at hp
  exact Or.inr hp
 ·obtain ⟨_,_,_,_,_,hz,hn⟩:=hW
  refine ⟨hok,_,_,([] ++ pa) ++ pv,⟨[] ++ pa,pv,trodAll_append (hargs _ (fun _ _=>rfl)) (hres _ _ _),hvars _ (fun _ _=>rfl),rfl, ?_, ?_⟩, ?_⟩
  ·intro b off hp
   have hin:MemPlace.cell b off∈before:=by rw [hps];simpa using hp
   rw [hb.frozen (hlt _ hin)]
   exact hz b off hin
  ·intro ha
   have:=hn ha
   rw [hps] at this
   simpa using this
  ·intro p hp _
   rw [hps]
   simpa using hp
theorem nd (hl:laidOutB P=true) {W W':World} (hb:Below W.heap.size W W') {sp:Nat→Bool} :∀(ts:List TypeId) (vs:List Value) (ds:List (DataW H)) (ps:List MemPlace),
  (∀t∈ts,P.readableRec t=true∧t < P.types.size)→(∀p∈ps,p.block < W.heap.size)→(∀p∈ps,sp p.block=true)→
  DataW.TrodAll enc P W 0 (fun _=>true) true ts vs ds ps→DataW.TrodAll enc P W' 0 sp true ts vs ds ps
 | [],vs,ds,ps,_,_,_,h=>by
  obtain ⟨rfl,rfl,rfl⟩:=trodAll_nil h
  exact trodAll_mk0
 | t :: ts,vs,ds,ps,ht,hlt,hsp,h=>by
  obtain ⟨v,vs',d,ds',p,q,rfl,rfl,rfl,h0,r0⟩:=trodAll_cons h
  exact trodAll_cons_mk (WideElems.Trod_stays hl (ht t (by simp)).1 (ht t (by simp)).2 h0 (fun x hx=>hb.same (hlt x (by simp [hx]))) (fun x hx=>hsp x (by simp [hx])))
   (nd hl hb ts vs' ds' q (fun t' h'=>ht t' (by simp [h'])) (fun p' hp=>hlt p' (by simp [hp])) (fun p' hp=>hsp p' (by simp [hp])) r0)
end
end Go.Proofs.YtekbhbcgoadciaaGreat
namespace Go.Proofs.YtekbhbcgoadciaaGreat
open Go.RowKit
def In (lo hi:Nat) (u:Value):Prop:=∀g,u.ownBlock=some g→lo≤g∧g < hi
theorem In.mono {lo hi lo' hi':Nat} {u:Value} (h:In lo hi u) (h1:lo'≤lo) (h2:hi≤hi'):In lo' hi' u:=fun g hg=>by have:=h g hg;omega
theorem H4 (lo hi:Nat) (n c:Nat):In lo hi (.slice none n c):=fun g hg=>by cases hg
theorem xI {lo hi:Nat} {ao:Option Addr} {n c:Nat} (h:∀g,bk ao=some g→lo≤g∧g < hi):In lo hi (.slice ao n c):=fun g hg=>h g (by rw [cr] at hg;exact hg)
structure xJ {D:Type} (Ow1:World→Value→D→Prop):Prop where
 loc:∀ {w w' u d},Ow1 w u d→(∀g,u.ownBlock=some g→w'.heap[g]? =w.heap[g]?)→Ow1 w' u d
 lt:∀ {w u d},Ow1 w u d→∀g,u.ownBlock=some g→g < w.heap.size
 one:∀ {w u d},Ow1 w u d→u.oneCell'=true
structure mx {D:Type} (Ow1:World→Value→D→Prop) (w:World) (lo hi E:Nat) (ao:Option Addr) (n c:Nat) (us:List Value) (ds:List D):Prop where
 own:Own w lo E ao n c us
 top:∀g,bk ao=some g→g < hi
 len:ds.length=n
 el:∀(j:Nat) (u:Value) (d:D),us[j]? =some u→ds[j]? =some d→Ow1 w u d
 rng:∀(j:Nat) (u:Value),us[j]? =some u→In lo hi u
 out:∀(j:Nat) (u:Value) (g:Nat),us[j]? =some u→u.ownBlock=some g→bk ao≠some g
 apart:∀(i j:Nat) (u u':Value) (g:Nat),i≠j→us[i]? =some u→us[j]? =some u'→u.ownBlock=some g→u'.ownBlock≠some g
section
variable {D:Type} {Ow1:World→Value→D→Prop} {w w':World} {lo hi E:Nat} {ao:Option Addr} {n c:Nat} {us:List Value} {ds:List D}
theorem mx.Hj (h:mx Ow1 w lo hi E ao n c us ds):us.length=n:=h.own.len
theorem mx.get (h:mx Ow1 w lo hi E ao n c us ds) {j:Nat} (hj:j < n):∃u d,us[j]? =some u∧ds[j]? =some d∧Ow1 w u d∧In lo hi u:=
 have h1:j < us.length:=by rw [h.Hj];exact hj
 have h2:j < ds.length:=by rw [h.len];exact hj
 ⟨us[j],ds[j],List.getElem?_eq_getElem h1,List.getElem?_eq_getElem h2,h.el j _ _ (List.getElem?_eq_getElem h1) (List.getElem?_eq_getElem h2),h.rng j _ (List.getElem?_eq_getElem h1)⟩
theorem mx.same (I:xJ Ow1) (h:mx Ow1 w lo hi E ao n c us ds) (hs:∀g,lo≤g→g < hi→g < w.heap.size→w'.heap[g]? =w.heap[g]?):mx Ow1 w' lo hi E ao n c us ds:=
 {own:=h.own.same fun g hg=>hs g (h.own.lt g hg).1 (h.top g hg) (h.own.lt g hg).2,top:=h.top,len:=h.len,rng:=h.rng,out:=h.out,apart:=h.apart,el:=fun j u d hu hd=>I.loc (h.el j u d hu hd) fun g hg=>hs g (h.rng j u hu g hg).1 (h.rng j u hu g hg).2 (I.lt (h.el j u d hu hd) g hg) }
theorem mx.below (I:xJ Ow1) (h:mx Ow1 w lo hi E ao n c us ds) (hb:Below w.heap.size w w'):mx Ow1 w' lo hi E ao n c us ds:=h.same I fun g _ _ hg=>hb.block g hg
theorem mx.only (I:xJ Ow1) (h:mx Ow1 w lo hi E ao n c us ds) {l k:Nat} (ho:fw l k w w') (hd:hi≤l∨k≤lo):mx Ow1 w' lo hi E ao n c us ds:=
 h.same I fun g h1 h2 hg=>ho.block g hg ae
theorem mx.mono (h:mx Ow1 w lo hi E ao n c us ds) {lo' hi':Nat} (h1:lo'≤lo) (h2:hi≤hi'):mx Ow1 w lo' hi' E ao n c us ds:=
 {own:=h.own.mono h1,top:=fun g hg=>Nat.lt_of_lt_of_le (h.top g hg) h2,len:=h.len,el:=h.el,out:=h.out,apart:=h.apart,rng:=fun j u hu=>(h.rng j u hu).mono h1 h2 }
theorem mx.lf (h:Own w lo E ao 0 c []) (hhi:∀g,bk ao=some g→g < hi):mx Ow1 w lo hi E ao 0 c [] []:=
 {own:=h,top:=hhi,len:=rfl,el:=fun j u d hj _=>by simp at hj,rng:=fun j u hj=>by simp at hj,out:=fun j u g hj=>by simp at hj,apart:=fun i j u u' g _ hi=>by simp at hi }
theorem mx.push (I:xJ Ow1) (h:mx Ow1 w lo hi E ao n c us ds) {ao':Option Addr} {c' hi':Nat} {u:Value} {d:D} (hown:Own w' lo E ao' (n + 1) c' (us ++ [u])) (hg:w.grownBy w' (bk ao)) (hu:Ow1 w' u d) (hur:In lo hi' u)
  (hao:∀g,bk ao'=some g→g < hi') (hhi:hi≤hi') (hnew:∀g,bk ao'=some g→(bk ao=some g∨∀(j:Nat) (u:Value),us[j]? =some u→u.ownBlock≠some g))
  (hua:∀g,u.ownBlock=some g→bk ao'≠some g∧∀(j:Nat) (v:Value),us[j]? =some v→v.ownBlock≠some g):mx Ow1 w' lo hi' E ao' (n + 1) c' (us ++ [u]) (ds ++ [d]):=by
 have hul:us.length=n:=h.Hj
 have split1:∀ {j v},(us ++ [u])[j]? =some v→(us[j]? =some v∧j < n)∨(j=n∧v=u):=by
  intro j v hj
  rw [List.getElem?_append] at hj
  split at hj
  ·exact .inl ⟨hj,ae⟩
  ·rw [hul] at hj
   cases hjn:j - n with
   | zero=>rw [hjn] at hj;simp at hj;exact .inr ⟨ae,hj.symm⟩
   | succ k=>rw [hjn] at hj;simp at hj
 refine { own:=hown,top:=hao,len:=by rw [List.length_append,h.len];rfl,el:= ?_,rng:= ?_,out:= ?_,apart:= ?_ }
 ·intro j v x hv hx
  rcases split1 hv with ⟨h1,hj⟩ | ⟨rfl,rfl⟩
  ·rw [List.getElem?_append_left (by rw [h.len];exact hj)] at hx
   refine I.loc (h.el j v x h1 hx) fun g hgg=>hg.block g (I.lt (h.el j v x h1 hx) g hgg) fun e=>h.out j v g h1 hgg e.symm
  ·rw [List.getElem?_append_right (by rw [h.len];exact Nat.le_refl _),h.len,Nat.sub_self] at hx
   simp at hx;subst hx;exact hu
 ·intro j v hv
  rcases split1 hv with ⟨h1,hj⟩ | ⟨rfl,rfl⟩
  ·exact (h.rng j v h1).mono (Nat.le_refl _) hhi
  ·exact hur
 ·intro j v g hv hgg
  rcases split1 hv with ⟨h1,hj⟩ | ⟨rfl,rfl⟩
  ·intro e
   rcases hnew g e with h2 | h2
   ·exact h.out j v g h1 hgg h2
   ·exact h2 j v h1 hgg
  ·exact (hua g hgg).1
 ·intro i j v v' g hij hv hv' hgg
  rcases split1 hv with ⟨h1,hi1⟩ | ⟨rfl,rfl⟩
  ·rcases split1 hv' with ⟨h2,hj1⟩ | ⟨rfl,rfl⟩
   ·exact h.apart i j v v' g hij h1 h2 hgg
   ·exact fun e=>(hua g e).2 i v h1 hgg
  ·rcases split1 hv' with ⟨h2,hj1⟩ | ⟨rfl,_⟩
   ·exact (hua g hgg).2 j v' h2
   ·exact absurd rfl hij
theorem mx.cell {g0:Nat} (h:mx Ow1 w lo hi E (some ⟨g0,0,none⟩) n c us ds) {j:Nat} {u:Value} (hu:us[j]? =some u):w.cell? ⟨g0,j,none⟩=some u:=by
 have hj:j < n:=by have:=(List.getElem?_eq_some_iff.1 hu).1;rw [h.Hj] at this;exact this
 obtain ⟨g',hg,_,_,_,hc,_⟩:=h.own.form ae
 obtain rfl:g0=g':=by injection hg with hg;injection hg
 rw [hc j hj,hu]
end
def bn {α:Type} (zss:List (List α)) (k:Nat):List α:=zss.getD k []
theorem iB {α:Type} {zss:List (List α)} {k:Nat} (h:k < zss.length):bn zss k=zss[k]:=by simp [bn,h]
theorem uw {α:Type} {zss:List (List α)} {k:Nat} {z:List α} (h:zss[k]? =some z):bn zss k=z:=by simp [bn,h]
theorem jq {α:Type} {zss:List (List α)} {k:Nat} (h:k < zss.length):zss.take (k + 1)=zss.take k ++ [bn zss k]:=by rw [List.take_succ_eq_append_getElem h,iB h]
theorem gb {α:Type} {zss:List (List α)} {k:Nat} (h:k < zss.length):bn zss k∈zss:=by rw [iB h];exact List.getElem_mem h
def Fe (w:World) (v:Value) (zs:List Int):Prop:=∃ao n c,v= .slice ao n c∧dC w ao n zs
def y6 (E:Nat) (w:World) (v:Value) (zs:List Int):Prop:=∃ao n c,v= .slice ao n c∧Own w 0 E ao n c (zs.map (Value.int .i64))
theorem y6.rd {E:Nat} {w:World} {v:Value} {zs:List Int} (h:y6 E w v zs):Fe w v zs:=by
 obtain ⟨ao,n,c,rfl,ho⟩:=h
 exact ⟨ao,n,c,rfl,ho.ints⟩
theorem ik (E:Nat):xJ (y6 E):=
 {loc:=fun {w w' u d} h hs=>by
   obtain ⟨ao,n,c,rfl,ho⟩:=h
   exact ⟨ao,n,c,rfl,ho.same fun g hg=>hs g (by rw [cr];exact hg)⟩,lt:=fun {w u d} h g hg=>by
   obtain ⟨ao,n,c,rfl,ho⟩:=h
   rw [cr] at hg
   exact (ho.lt g hg).2,one:=fun {w u d} h=>by obtain ⟨ao,n,c,rfl,_⟩:=h;rfl }
theorem Fe.below {w w':World} {v:Value} {zs:List Int} (h:Fe w v zs) (hb:Below w.heap.size w w'):Fe w' v zs:=by
 obtain ⟨ao,n,c,rfl,hi⟩:=h
 exact ⟨ao,n,c,rfl,hi.below hb⟩
def kn (w:World) (ao:Option Addr) (n:Nat) (zss:List (List Int)):Prop:=
 zss.length=n∧n≤17592186044416∧(0 < n→∃b off,ao=some ⟨b,off,none⟩∧∀j,j < n→∃u,w.cell? ⟨b,off + j,none⟩=some u∧Fe w u (bn zss j))
theorem kn.at_ {w:World} {ao:Option Addr} {n:Nat} {zss:List (List Int)} (h:kn w ao n zss) {k:Nat} (hk:k < n):
  ∃b off a' n' c',ao=some ⟨b,off,none⟩∧w.cell? ⟨b,off + k,none⟩=some (.slice a' n' c')∧dC w a' n' (bn zss k):=by
 obtain ⟨b,off,e,hc⟩:=h.2.2 ae
 obtain ⟨u,h1,a',n',c',rfl,h2⟩:=hc k hk
 exact ⟨b,off,a',n',c',e,h1,h2⟩
theorem kn.below {w w':World} {ao:Option Addr} {n:Nat} {zss:List (List Int)} (h:kn w ao n zss) (hb:Below w.heap.size w w'):kn w' ao n zss:=by
 refine ⟨h.1,h.2.1,fun hn=> ?_⟩
 obtain ⟨b,off,rfl,hc⟩:=h.2.2 hn
 refine ⟨b,off,rfl,fun j hj=> ?_⟩
 obtain ⟨u,h1,h2⟩:=hc j hj
 exact ⟨u,(hb.cell (p:=⟨b,off + j,none⟩) (World.block_lt_of_cell? w _ h1)).trans h1,h2.below hb⟩
theorem mx.Jk {E1:Nat} {w:World} {lo hi E:Nat} {ao:Option Addr} {n c:Nat} {us:List Value} {zss:List (List Int)} (h:mx (y6 E1) w lo hi E ao n c us zss):kn w ao n zss:=by
 refine ⟨h.len,by have:=h.own.2;omega,fun hn=> ?_⟩
 obtain ⟨g,rfl,_,_,_,_,_⟩:=h.own.form hn
 refine ⟨g,0,rfl,fun j hj=> ?_⟩
 obtain ⟨u,d,hu,hd,h1,_⟩:=h.get hj
 refine ⟨u,by rw [Nat.zero_add];exact h.cell hu, ?_⟩
 rw [uw hd];exact h1.rd
def Is (w:World) (v:Value) (zss:List (List Int)):Prop:=∃ao n c,v= .slice ao n c∧kn w ao n zss
def qS (E1 E:Nat) (w:World) (lo hi:Nat) (v:Value) (zss:List (List Int)):Prop:=∃ao n c us,v= .slice ao n c∧mx (y6 E1) w lo hi E ao n c us zss
theorem qS.rd {E1 E:Nat} {w:World} {lo hi:Nat} {v:Value} {zss:List (List Int)} (h:qS E1 E w lo hi v zss):Is w v zss:=by
 obtain ⟨ao,n,c,us,rfl,ho⟩:=h
 exact ⟨ao,n,c,rfl,ho.Jk⟩
theorem qS.only {E1 E:Nat} {w w':World} {lo hi:Nat} {v:Value} {zss:List (List Int)} (h:qS E1 E w lo hi v zss) {l k:Nat} (ho:fw l k w w') (hd:hi≤l∨k≤lo):qS E1 E w' lo hi v zss:=by
 obtain ⟨ao,n,c,us,rfl,h1⟩:=h
 exact ⟨ao,n,c,us,rfl,h1.only (ik E1) ho hd⟩
def ff (E:Nat) (w:World) (lo hi:Nat) (v:Value) (zs:List Int):Prop:=y6 E w v zs∧In lo hi v
theorem ff.rd {E:Nat} {w:World} {lo hi:Nat} {v:Value} {zs:List Int} (h:ff E w lo hi v zs):Fe w v zs:=h.1.rd
theorem ff.below {E:Nat} {w w':World} {lo hi:Nat} {v:Value} {zs:List Int} (h:ff E w lo hi v zs) (hb:Below w.heap.size w w'):ff E w' lo hi v zs:=
 ⟨(ik E).loc h.1 fun g hg=>hb.block g ((ik E).lt h.1 g hg),h.2⟩
theorem ff.only {E:Nat} {w w':World} {lo hi:Nat} {v:Value} {zs:List Int} (h:ff E w lo hi v zs) {l k:Nat} (ho:fw l k w w') (hd:hi≤l∨k≤lo):ff E w' lo hi v zs:=
 ⟨(ik E).loc h.1 fun g hg=>ho.block g ((ik E).lt h.1 g hg) (by have:=h.2 g hg;omega),h.2⟩
theorem ff.of {E:Nat} {w:World} {base:Nat} {ao:Option Addr} {n c:Nat} {zs:List Int} (h:Own w base E ao n c (zs.map (Value.int .i64))):ff E w base w.heap.size (.slice ao n c) zs:=
 ⟨⟨ao,n,c,rfl,h.mono (Nat.zero_le _)⟩,xI h.lt⟩
def marks (k:Int) (n:Nat):List Int:=(List.range n).map fun j:Nat=>k + (j:Int)
abbrev du:Type:=Int×List (List Int)
def JN (w:World) (v:Value) (d:du):Prop:=∃ao n c,v= .agg #[.int .i64 d.1, .slice ao n c]∧kn w ao n d.2
def tE (E1 E:Nat) (w:World) (lo hi:Nat) (v:Value) (d:du):Prop:=∃ao n c us,v= .agg #[.int .i64 d.1, .slice ao n c]∧mx (y6 E1) w lo hi E ao n c us d.2
theorem tE.below {E1 E:Nat} {w w':World} {lo hi:Nat} {v:Value} {d:du} (h:tE E1 E w lo hi v d) (hb:Below w.heap.size w w'):tE E1 E w' lo hi v d:=by
 obtain ⟨ao,n,c,us,rfl,ho⟩:=h
 exact ⟨ao,n,c,us,rfl,ho.below (ik E1) hb⟩
theorem tE.only {E1 E:Nat} {w w':World} {lo hi:Nat} {v:Value} {d:du} (h:tE E1 E w lo hi v d) {l k:Nat} (ho:fw l k w w') (hd:hi≤l∨k≤lo):tE E1 E w' lo hi v d:=by
 obtain ⟨ao,n,c,us,rfl,h1⟩:=h
 exact ⟨ao,n,c,us,rfl,h1.only (ik E1) ho hd⟩
theorem jZ {w W W':World} (k:Below W.heap.size W W') (h:Below w.heap.size w W):Below w.heap.size w W':=h.trans (k.mono h.size)
theorem x9 (w:World):Below w.heap.size w w.drew:=(Below.refl _ _).drew
theorem below_alloc1 (w:World) (o:Obj):Below w.heap.size w (w.alloc o):=(Below.refl _ _).alloc (Nat.le_refl _) o
theorem below_alloc2 (w:World) (o o':Obj):Below w.heap.size w ((w.alloc o).alloc o'):=(below_alloc1 w o).alloc (by simp) o'
def iX (w:World) (g:Nat) (t:TypeId) (cs:Array Value):Prop:=w.heap[g]? =some (.cells cs t (0,0))
theorem iX.lt {w:World} {g:Nat} {t:TypeId} {cs:Array Value} (h:iX w g t cs):g < w.heap.size:=by
 rcases Nat.lt_or_ge g w.heap.size with hlt | hge
 ·exact hlt
 ·unfold iX at h;rw [Array.getElem?_eq_none hge] at h;cases h
theorem iX.cell {w:World} {g:Nat} {t:TypeId} {cs:Array Value} (h:iX w g t cs) (i:Nat):w.cell? ⟨g,i,none⟩=cs[i]? :=cell_of_row w g i cs t (0,0) h
theorem iX.frozen {w:World} {g:Nat} {t:TypeId} {cs:Array Value} (h:iX w g t cs) (i:Nat):w.frozen? ⟨g,i,none⟩=false:=by
 unfold iX at h;simp [World.frozen?,h]
theorem iX.new (w:World) (t:TypeId) (cs:Array Value):iX (w.alloc (.cells cs t)) w.heap.size t cs:=heap_alloc_new w _
theorem jK {w:World} {t:TypeId} {cs:Array Value} {k:Nat} (h:w.heap.size=k):iX (w.alloc (.cells cs t)) k t cs:=h ▸ iX.new w t cs
theorem iX.alloc {w:World} {g:Nat} {t:TypeId} {cs:Array Value} (h:iX w g t cs) (o:Obj):iX (w.alloc o) g t cs:=(Below.heap_alloc w o g h.lt).trans h
theorem iX.tH {w:World} {g:Nat} {t:TypeId} {cs:Array Value} (h:iX w g t cs) (i:Nat) (u:Value):iX (w.setCell ⟨g,i,none⟩ u) g t (cs.setIfInBounds i u):=by
 unfold iX at h ⊢
 simp [World.setCell,Array.getElem?_modify,h]
theorem iX.Kk {w:World} {g:Nat} {t:TypeId} {cs:Array Value} (h:iX w g t cs) {p:Addr} (hp:g≠p.block) (u:Value):iX (w.setCell p u) g t cs:=(Below.heap_setCell w p u g hp).trans h
theorem iX.below {w w':World} {g:Nat} {t:TypeId} {cs:Array Value} {B:Nat} (h:iX w g t cs) (hb:Below B w w') (hg:g < B):iX w' g t cs:=(hb.block g hg).trans h
theorem iX.mh {w w':World} {g:Nat} {t:TypeId} {cs:Array Value} (h:iX w g t cs) (hb:Below w.heap.size w w'):iX w' g t cs:=h.below hb h.lt
theorem iX.only {w w':World} {g:Nat} {t:TypeId} {cs:Array Value} {lo hi:Nat} (h:iX w g t cs) (ho:fw lo hi w w') (hg:g < lo∨hi≤g):iX w' g t cs:=(ho.block g h.lt hg).trans h
theorem iX.drewN {w:World} {g:Nat} {t:TypeId} {cs:Array Value} (h:iX w g t cs) (m:Nat):iX (w.drewN m) g t cs:=h
end Go.Proofs.YtekbhbcgoadciaaGreat
namespace Go.Proofs.YtekbhbcgoadciaaGreat
open Go.RowKit
def C2 (w:World) (ao:Option Addr) (n:Nat) (hi:Nat):Prop:=n≤281474976710656∧(0 < n→∃b off,ao=some ⟨b,off,none⟩∧b < hi∧∀j,j < n→∃x:Nat,x < 256∧w.cell? ⟨b,off + j,none⟩=some (.int .u8 x))
structure Src (w:World) (sb:Nat):Prop where
 box:∃(ao:Option Addr) (n c k h:Nat),iX w sb 108 #[.slice ao n c, .int .i64 k, .int .u64 h]∧h < 18446744073709551616∧k≤n∧C2 w ao n sb
theorem C2.only {w w':World} {ao:Option Addr} {n hi:Nat} {lo h2:Nat} (h:C2 w ao n hi) (ho:fw lo h2 w w') (hl:hi≤lo):C2 w' ao n hi:=by
 refine ⟨h.1,fun hn=> ?_⟩
 obtain ⟨b,off,e,hb,hc⟩:=h.2 hn
 refine ⟨b,off,e,hb,fun j hj=> ?_⟩
 obtain ⟨x,hx,hcx⟩:=hc j hj
 exact ⟨x,hx,(World.cell?_of_block (ho.block b (World.block_lt_of_cell? w _ hcx) (.inl ae))).trans hcx⟩
theorem j7 (a:Int):∃H:Nat,H < 18446744073709551616∧IntKind.u64.wrap a=(H:Int):=by
 rw [IntKind.wrap_u64]
 exact ⟨(a % 18446744073709551616).toNat,ae,ae⟩
theorem JS (a:Int):∃X:Nat,X≤16777215∧wrap64 (bits .and .u64 a 16777215)=(X:Int):=by
 refine ⟨(BitVec.ofInt 64 a &&& BitVec.ofInt 64 16777215).toNat, ?_, ?_⟩
 ·rw [BitVec.toNat_and]
  exact Nat.le_trans Nat.and_le_right (by decide)
 ·have h:(BitVec.ofInt 64 a &&& BitVec.ofInt 64 16777215).toNat≤16777215:=by rw [BitVec.toNat_and];exact Nat.le_trans Nat.and_le_right (by decide)
  show wrap64 (IntKind.u64.wrap ((BitVec.ofInt 64 a &&& BitVec.ofInt 64 16777215).toNat:Int))=_
  rw [IntKind.wrap_u64]
  generalize (BitVec.ofInt 64 a &&& BitVec.ofInt 64 16777215).toNat=Y at *
  unfold wrap64
  omega
theorem Ey (w:World) (sb i:Nat) (v:Value) {w':World} (h:w'=w.setCell ⟨sb,i,none⟩ v:=by rfl):fw sb (sb + 1) w w':=by
 subst h
 exact ⟨rfl,rfl,rfl,by simp [World.setCell],fun k hk hd=>Below.heap_setCell _ _ _ _ (by show k≠sb;omega)⟩
theorem kS (sb:Nat) (z:Int) (w:World) (h:Src w sb) (hz: -4611686018427387904≤z∧z≤4611686018427387904):
  Calls Tryz.prog 98 #[.pointer (some ⟨sb,0,none⟩), .int .i64 z] w fun e w'=>∃r:Nat,e= .returned (.int .i64 r)∧(z < 1→r=0)∧(1≤z→(r:Int) < z)∧Src w' sb∧fw sb (sb + 1) w w':=by
 obtain ⟨ao,n,c,k,hh,hB,h2,h3,h4⟩:=h.box
 have x0:=hB.cell 0
 have x1:=hB.cell 1
 have x2:=hB.cell 2
 have f1:=hB.frozen 1
 have f2:=hB.frozen 2
 simp at x0 x1 x2
 by_cases hz1:z < 1
 ·have e0:decide (z < 1)=true:=by simp [hz1]
  go_enter Tryz.func98,Tryz.ntmps98
  go_wp2
  go_ret
  exact ⟨0,rfl,fun _=>rfl,fun h=>by omega,h,fw.refl _ _ _⟩
 ·have e0:decide (z < 1)=false:=by simp;omega
  go_enter Tryz.func98,Tryz.ntmps98
  go_wp2_with fail
  obtain ⟨H,hH1,hH2⟩:=j7 (IntKind.u64.wrap ((hh:Int) * 6364136223846793005) + 1442695040888963407)
  rw [hH2]
  obtain ⟨X,hX1,hX2⟩:=JS ((H:Int) / 8589934592)
  rw [hX2]
  have B1:iX (w.setCell ⟨sb,2,none⟩ (.int .u64 (H:Int))) sb 108 #[.slice ao n c, .int .i64 k, .int .u64 H]:=hB.tH 2 _
  have O1:fw sb (sb + 1) w (w.setCell ⟨sb,2,none⟩ (.int .u64 (H:Int))):=Ey _ _ 2 _
  generalize w.setCell ⟨sb,2,none⟩ (.int .u64 (H:Int))=w1 at *
  have h5:C2 w1 ao n sb:=h4.only O1 (Nat.le_refl _)
  have y0:=B1.cell 0
  have y1:=B1.cell 1
  have g1:=B1.frozen 1
  simp at y0 y1
  clear x0 x1 x2 f1 f2 hH2 hX2 h4 hB
  have hn:=h5.1
  have hzz:(z == 0)=false:=by simp;omega
  have fin:∀(Y k':Nat) (w2:World),Y≤33554432→k'≤n→iX w2 sb 108 #[.slice ao n c, .int .i64 k', .int .u64 H]→fw sb (sb + 1) w1 w2→∃r:Nat,Ending.returned (Value.int .i64 ((Y:Int) % z))=Ending.returned (.int .i64 r)∧(z < 1→r=0)∧(1≤z→(r:Int) < z)∧Src w2 sb∧fw sb (sb + 1) w w2:=fun Y k' w2 hY hk' hB2 hO2=>by
   have e2:=Int.emod_nonneg (Y:Int) (show z≠0 by omega)
   have e3:=Int.emod_lt_of_pos (Y:Int) (show 0 < z by omega)
   exact ⟨((Y:Int) % z).toNat,by rw [Int.toNat_of_nonneg e2],fun h=>by omega,fun _=>by omega,⟨ao,n,c,k',H,hB2,hH1,hk',h5.only hO2 (Nat.le_refl _)⟩,O1.trans hO2⟩
  by_cases hk:k < n
  ·obtain ⟨b,off,rfl,hb,hc⟩:=h5.2 ae
   obtain ⟨x,hx,hcx⟩:=hc k hk
   go_quiet (fail)
   go_wp2_with fail
   go_quiet (fail)
   go_wp2
   go_ret
   have key:=fin (X + x) (k + 1)
   rw [Int.natCast_add] at key
   exact key _ ae ae (B1.tH 1 (.int .i64 ((k:Int) + 1))) ⟨rfl,rfl,rfl,by simp [World.setCell,World.drewN],fun a ha hd=>Below.heap_setCell w1 ⟨sb,1,none⟩ (.int .i64 ((k:Int) + 1)) a (by show a≠sb;omega)⟩
  ·go_quiet (fail)
   go_wp2
   go_ret
   exact fin X k _ ae h3 (B1.drewN _) ⟨rfl,rfl,rfl,Nat.le_refl _,fun _ _ _=>rfl⟩
theorem C2.below {w w':World} {ao:Option Addr} {n hi:Nat} (h:C2 w ao n hi) (hb:Below w.heap.size w w'):C2 w' ao n hi:=by
 refine ⟨h.1,fun hn=> ?_⟩
 obtain ⟨b,off,e,hlt,hc⟩:=h.2 hn
 refine ⟨b,off,e,hlt,fun j hj=> ?_⟩
 obtain ⟨x,hx,hcx⟩:=hc j hj
 exact ⟨x,hx,(World.cell?_of_block (hb.block b (World.block_lt_of_cell? w _ hcx))).trans hcx⟩
theorem E4 (ao:Option Addr) (n c:Nat) (w:World) (h:C2 w ao n w.heap.size):
  Calls Tryz.prog 44 #[.slice ao n c] w fun e w'=>e= .returned (.pointer (some ⟨w.heap.size,0,none⟩))∧Src w' w.heap.size∧w.heap.size < w'.heap.size∧Below w.heap.size w w':=by
 have hn:=h.1
 go_enter Tryz.func44,Tryz.ntmps44
 go_wp2
 go_loopw [4] (fun i wr=>∃k hh:Nat,k≤n∧i= .int .i64 k∧hh < 18446744073709551616∧iX wr w.heap.size 108 #[.slice ao n c, .int .i64 0, .int .u64 hh]∧Below w.heap.size w wr∧w.heap.size < wr.heap.size) (fun i _=>n - (intOf i).toNat)
 case atStart=>exact ⟨0,8191 + n,Nat.zero_le _,rfl,ae,jK rfl,below_alloc1 _ _,by simp⟩
 case round=>
  obtain ⟨k,hh,hk,rfl,hh1,hB,hb,hs⟩:=hrel
  have done:Src wr w.heap.size:=⟨ao,n,c,0,hh,hB,hh1,Nat.zero_le _,h.below hb⟩
  by_cases hlt:k < n
  ·by_cases hl4:k < 4096
   ·obtain ⟨b,off,rfl,hbb,hc⟩:=(h.below hb).2 ae
    obtain ⟨x,hx,hcx⟩:=hc k hlt
    have x2:=hB.cell 2
    have f2:=hB.frozen 2
    simp at x2
    obtain ⟨A,hA1,hA2⟩:=j7 ((hh:Int) * 1099511628211)
    obtain ⟨C,hC1,hC2⟩:=j7 ((A:Int) + x)
    obtain ⟨D,hD1,hD2⟩:=j7 ((C:Int) + 11)
    have e1:IntKind.u64.wrap (x:Int)=(x:Int):=by rw [IntKind.wrap_u64];omega
    have HB:=Lib.hid hB
    clear hB hc done h
    go_wp2_with fail
    go_region_law (fail)
    all_goals
     have hb2:=hb.setCell (p:=⟨w.heap.size,2,none⟩) (Nat.le_refl _) (.int .u64 (D:Int))
     go_wp2
     go_roundw
     case rel=>exact ⟨k + 1,D,ae,by go_num,hD1,HB.out.tH 2 (.int .u64 (D:Int)),⟨hb2.os,hb2.tape,hb2.output,hb2.size,hb2.block⟩,by simpa [World.setCell] using hs⟩
     case measure=>simp [intOf];omega
   ·go_wp2
    go_ret
    exact ⟨rfl,done,hs,hb⟩
  ·obtain rfl:k=n:=by omega
   go_wp2
   go_ret
   exact ⟨rfl,done,hs,hb⟩
end Go.Proofs.YtekbhbcgoadciaaGreat
namespace Go.Proofs.YtekbhbcgoadciaaGreat
open Go.ChangeShapes Go.WideShapes Go.ChangeAt Go.RowKit Go.Deep
section
variable {H:Type} {enc:TypeId×Value→H} {P:Program}
theorem JC {W:World} {base:Nat} {t e:TypeId} {v:Value} {d:DataW H} {p:List MemPlace} (ht:P.underlying t=some (.slice e)) (he:P.underlying e=some (.int .u8)) (hc:P.cellsOf e=1) (hby:P.bytesOf e=1)
  (hv:Value.okWide P W .any base t v) (h:DataW.Trod enc P W 0 (fun _=>true) true t v d p) (hs:∀elems spare,d= .slice elems spare→(elems.length + spare.length) * P.bytesOf e≤reachBytes):
  ∃ao n c,v= .slice ao n c∧C2 W ao n W.heap.size:=by
 obtain ⟨a0,len,cap,rfl⟩:=okWide_slice ht hv
 obtain ⟨fuel,hf⟩:=h
 rcases open_ints ht he hc hf with ⟨hcs,hx⟩ | ⟨a,len',cap',zs,hcs,_,hl,hm,hz,hx,hcell,hwz⟩
 ·simp [Value.cells] at hcs
  obtain ⟨rfl,rfl,rfl⟩:=hcs
  exact ⟨_,_,_,rfl,ae,fun h=>absurd h ae⟩
 ·simp [Value.cells] at hcs
  obtain ⟨rfl,rfl,rfl⟩:=hcs
  simp only [Prod.mk.injEq] at hx
  simp only [if_true] at hz
  have hr:=hs _ _ hx.1
  rw [hby] at hr
  simp only [lits,List.length_map,List.length_take,List.length_drop,reachBytes] at hr
  refine ⟨_,_,_,rfl,ae,fun hn=> ?_⟩
  obtain ⟨b,off,spot⟩:=a
  have hspot:spot=none:=by simpa [Addr.add] using World.cell?_spot (hcell 0 ae)
  subst hspot
  refine ⟨b,off,rfl,World.block_lt_of_cell? W _ (hcell 0 ae),fun j hj=> ?_⟩
  have h1:=hcell j ae
  rw [Addr.add_lit] at h1
  have h2:=hwz (zs.getD j 0) (by rw [List.getD_eq_getElem?_getD,List.getElem?_eq_getElem (show j < zs.length by omega)];exact List.getElem_mem _)
  have h3:=Go.bounds_u8 h2
  exact ⟨(zs.getD j 0).toNat,ae,by rw [h1,Int.toNat_of_nonneg h3.1]⟩
end
end Go.Proofs.YtekbhbcgoadciaaGreat
namespace Go.Proofs.YtekbhbcgoadciaaGreat
open Go.RowKit
abbrev Nm:=Nat
inductive A1 where
 | val (v:Value)
 | any
 | sl (x:Nm) (off n:Nat)
 | ptr (x:Nm) (off:Nat)
 | esl (x:Nm) (i off n:Nat)
 | eptr (x:Nm) (i off:Nat)
 | clo (f:Fn) (xs:List (Nm×Nat))
inductive A2 where
 | one (a:A1)
 | agg (l:List A1)
inductive AV where
 | s (a:A2)
 | tup (l:List A2)
abbrev o1 (a:A1):AV:= .s (.one a)
abbrev vv (v:Value):AV:= .s (.one (.val v))
structure Hd where
 ao:Option Addr
 c:Nat
 k:Nat
structure Env where
 h:Nm→Option Hd
 r:Nm→Nat→Hd
def Ep (h:Hd) (off n:Nat) (u:Value):Prop:=
 ∃ao,u= .slice ao n (h.c - off)∧(off=0→ao=h.ao)∧(0 < off→off < h.c→ao=h.ao.map fun p=>⟨p.block,p.off + off * h.k,none⟩)
def xR (h:Hd) (off:Nat) (u:Value):Prop:=∃b o,h.ao=some ⟨b,o,none⟩∧u= .pointer (some ⟨b,o + off,none⟩)
def c6 (η:Env):A1→Value→Prop
 | .val v,u=>u=v
 | .any,u=>u.oneCell'=true
 | .sl x off n,u=>(∃ao c,u= .slice ao n c)∧∀h,η.h x=some h→Ep h off n u
 | .ptr x off,u=>(∃p,u= .pointer p)∧∀h,η.h x=some h→xR h off u
 | .esl x i off n,u=>(∃ao c,u= .slice ao n c)∧∀h,η.h x=some h→Ep (η.r x i) off n u
 | .eptr x i off,u=>(∃p,u= .pointer p)∧∀h,η.h x=some h→xR (η.r x i) off u
 | .clo f xs,u=>∃us:Array Value,u= .func f #[] us∧us.size=xs.length∧∀(j:Nat) (p:Nm×Nat),xs[j]? =some p→∃q,us[j]? =some q∧(∃p',q= .pointer p')∧∀h,η.h p.1=some h→xR h p.2 q
def gj (η:Env):A2→Value→Prop
 | .one a,u=>c6 η a u
 | .agg l,u=>∃us:Array Value,u= .agg us∧us.size=l.length∧∀(j:Nat) (a:A1),l[j]? =some a→∃u',us[j]? =some u'∧c6 η a u'
def Den (η:Env):AV→Value→Prop
 | .s a,u=>gj η a u
 | .tup l,u=>∃us:Array Value,u= .tuple us∧us.size=l.length∧∀(j:Nat) (a:A2),l[j]? =some a→∃u',us[j]? =some u'∧gj η a u'
def A1.has (x:Nm):A1→Bool
 | .sl y _ _ | .ptr y _ | .esl y _ _ _ | .eptr y _ _=>Nat.beq x y
 | .clo _ xs=>xs.any fun p=>Nat.beq x p.1
 | .val _ | .any=>false
def A2.has (x:Nm):A2→Bool
 | .one a=>a.has x
 | .agg l=>l.any (A1.has x)
def AV.has (x:Nm):AV→Bool
 | .s a=>a.has x
 | .tup l=>l.any (A2.has x)
def A1.forget (x:Nm) (a:A1):A1:=bif a.has x then .any else a
inductive kX where
 | v (x:Value)
 | r (F:TypeId) (k m:Nat) (vs:List Value)
 | any
inductive eQ where
 | flat (l:List A1)
 | bR (vs:List Value)
 | rows (E:TypeId) (vss:List (List Value)) (holes:List Nat)
 | mix (cs:List kX)
structure Ch where
 own:Bool
 E:TypeId
 k:Nat
 d:eQ
def eQ.len:eQ→Nat
 | .flat l=>l.length
 | .bR vs=>vs.length
 | .rows _ vss _=>vss.length
 | .mix cs=>cs.length
def eQ.forget (x:Nm):eQ→eQ
 | .flat l=> .flat (l.map (A1.forget x))
 | d=>d
def Ch.forget (x:Nm) (c:Ch):Ch:= { c with d:=c.d.forget x }
abbrev bY:=Nat→Option (Nm×Option Nat)
def dJ (ω:bY) (w:World) (ow:Nm×Option Nat) (h:Hd) (E:TypeId) (len:Nat) (cell:Nat→Value→Prop):Prop:=
 (h.ao=none∧h.c=0∧len=0)∨
 ∃b o cs,h.ao=some ⟨b,o,none⟩∧ω b=some ow∧w.heap[b]? =some (.cells cs E (0,0))∧(o=0∧cs.size=h.c * h.k)∧len≤h.c * h.k∧h.c≤maxLen∧
  ∀j,j < len→∃u,cs[o + j]? =some u∧cell j u
def F0 (ω:bY) (w:World) (h:Hd) (len:Nat) (cell:Nat→Value→Prop):Prop:=
 len≤h.c * h.k∧∀j,j < len→∃b o u,h.ao=some ⟨b,o,none⟩∧ω b=none∧b < w.heap.size∧w.cell? ⟨b,o + j,none⟩=some u∧cell j u
def lN (own:Bool) (ω:bY) (w:World) (ow:Nm×Option Nat) (h:Hd) (E:TypeId) (len:Nat) (cell:Nat→Value→Prop):Prop:=
 match own with
 | true=>dJ ω w ow h E len cell
 | false=>F0 ω w h len cell
def kU (η:Env) (ω:bY) (w:World) (own:Bool) (x:Nm) (j:Nat):kX→Value→Prop
 | .v y,u=>u=y
 | .any,_=>True
 | .r F k m vs,u=>vs.length=m * k∧u= .slice (η.r x j).ao m (η.r x j).c∧(η.r x j).k=k∧lN own ω w (x,some j) (η.r x j) F vs.length fun i u=>vs[i]? =some u
theorem kU.move {η η':Env} {ω ω':bY} {w w':World} {own own':Bool} {x x':Nm} {j:Nat} {c:kX} {u:Value} (hr:η'.r x' j=η.r x j)
  (hv:∀F k m vs,c= .r F k m vs→lN own ω w (x,some j) (η.r x j) F vs.length (fun i u=>vs[i]? =some u)→lN own' ω' w' (x',some j) (η.r x j) F vs.length (fun i u=>vs[i]? =some u)) (h:kU η ω w own x j c u):kU η' ω' w' own' x' j c u:=by
 cases c with
 | v y=>exact h
 | any=>trivial
 | r F k m vs=>
  obtain ⟨h0,h1,h2,h3⟩:=h
  unfold kU
  rw [hr]
  exact ⟨h0,h1,h2,hv F k m vs rfl h3⟩
def cI (η:Env) (ω:bY) (w:World) (own:Bool) (x:Nm):eQ→Nat→Value→Prop
 | .flat l,j,u=>∀a,l[j]? =some a→c6 η a u
 | .bR vs,j,u=>vs[j]? =some u
 | .rows E vss holes,j,u=>u.oneCell'=true∧(j ∉ holes→∀vs,vss[j]? =some vs→u= .slice (η.r x j).ao vs.length (η.r x j).c∧(η.r x j).k=1∧lN own ω w (x,some j) (η.r x j) E vs.length fun i u=>vs[i]? =some u)
 | .mix cs,j,u=>u.oneCell'=true∧∀c,cs[j]? =some c→kU η ω w own x j c u
def eA (η:Env) (ω:bY) (w:World) (x:Nm) (h:Hd) (c:Ch):Prop:=h.k=c.k∧lN c.own ω w (x,none) h c.E c.d.len (cI η ω w c.own x c.d)
def Mem (η:Env) (ω:bY) (w:World) (ch:Nm→Option Ch):Prop:=
 (∀x c,ch x=some c→∃h,η.h x=some h∧eA η ω w x h c)∧(∀x,ch x=none→η.h x=none)
structure Fr (ω:bY) (w:World) (ω':bY) (w':World):Prop where
 os:w'.os=w.os
 tape:w'.tape=w.tape
 output:w'.output=w.output
 size:w.heap.size≤w'.heap.size
 block:∀b,b < w.heap.size→ω b=none→w'.heap[b]? =w.heap[b]? ∧ω' b=none
theorem Fr.refl (ω:bY) (w:World):Fr ω w ω w:=⟨rfl,rfl,rfl,Nat.le_refl _,fun _ _ h=>⟨rfl,h⟩⟩
theorem Fr.trans {ω ω' ω'':bY} {w w' w'':World} (h:Fr ω w ω' w') (k:Fr ω' w' ω'' w''):Fr ω w ω'' w'':=
 ⟨k.os.trans h.os,k.tape.trans h.tape,k.output.trans h.output,Nat.le_trans h.size k.size,fun b hb hn=>
  have h1:=h.block b hb hn
  have h2:=k.block b (Nat.lt_of_lt_of_le hb h.size) h1.2
  ⟨h2.1.trans h1.1,h2.2⟩⟩
structure St where
 sl:Nat→Option AV
 ch:Nm→Option Ch
 ph:Nat→Option AV
structure ml where
 own:bY
 ph:List Value
def St.put (S:St) (t:Nat) (av:AV):St:= { S with sl:=fun t'=>bif Nat.beq t' t then some av else S.sl t' }
def St.IV (S:St) (t:Option Nat) (av:AV):St:=match t with | some t=>S.put t av | none=>S
def St.new (S:St) (x:Nm) (c:Ch):St:=
 {sl:=fun t=>(S.sl t).bind fun av=>bif av.has x then none else some av,ph:=fun t=>(S.ph t).bind fun av=>bif av.has x then none else some av,ch:=fun y=>bif Nat.beq y x then some c else (S.ch y).map (Ch.forget x) }
def St.set (S:St) (x:Nm) (c:Ch):St:= { S with ch:=fun y=>bif Nat.beq y x then some c else S.ch y }
def St.rm (S:St) (x:Nm):St:= { S with ch:=fun y=>bif Nat.beq y x then none else S.ch y }
structure dY (w0:World) (ω0:ml) (nt:Nat) (S:St) (η:Env) (ω:bY) (a:Act) (w:World):Prop where
 dfr:a.defers= []
 tsz:a.tmps.size=nt
 slots:∀t av,S.sl t=some av→∃u,a.tmps[t]? =some u∧Den η av u
 phs:∀t av,S.ph t=some av→∃u,ω0.ph[t]? =some u∧Den η av u
 mem:Mem η ω w S.ch
 fr:Fr ω0.own w0 ω w
def Sat (w0:World) (ω0:ml) (nt:Nat) (S:St) (a:Act) (w:World):Prop:=∃η ω,dY w0 ω0 nt S η ω a w
section
variable {w0 w:World} {ω0:ml} {ω:bY} {nt:Nat} {S:St} {η:Env} {a:Act}
theorem beq_true {x y:Nat} (h:Nat.beq x y=true):x=y:=Nat.eq_of_beq_eq_true h
theorem dy {x y:Nat} (h:x≠y):Nat.beq x y=false:=by
 cases hb:Nat.beq x y with
 | true=>exact absurd (beq_true hb) h
 | false=>rfl
theorem iW (S:St) (t t':Nat) (av:AV):(S.put t av).sl t'=if t'=t then some av else S.sl t':=by
 unfold St.put
 by_cases h:t'=t
 ·subst h;simp
 ·simp only [dy h,if_neg h,cond_false]
theorem ve (S:St) (x y:Nm) (c:Ch):(S.set x c).ch y=if y=x then some c else S.ch y:=by
 unfold St.set
 by_cases h:y=x
 ·subst h;simp
 ·simp only [dy h,if_neg h,cond_false]
theorem fG (S:St) (x y:Nm):(S.rm x).ch y=if y=x then none else S.ch y:=by
 unfold St.rm
 by_cases h:y=x
 ·subst h;simp
 ·simp only [dy h,if_neg h,cond_false]
theorem vy (S:St) (x y:Nm) (c:Ch):(S.new x c).ch y=if y=x then some c else (S.ch y).map (Ch.forget x):=by
 unfold St.new
 by_cases h:y=x
 ·subst h;simp
 ·simp only [dy h,if_neg h,cond_false]
theorem DJ {S:St} {x:Nm} {c:Ch} {t:Nat} {av:AV} (h:(S.new x c).sl t=some av):S.sl t=some av∧av.has x=false:=by
 unfold St.new at h
 simp only at h
 cases hs:S.sl t with
 | none=>rw [hs] at h;cases h
 | some b=>
  rw [hs] at h
  simp only [Option.bind_some] at h
  cases hb:b.has x with
  | true=>rw [hb] at h;cases h
  | false=>rw [hb] at h;simp at h;subst h;exact ⟨rfl,hb⟩
theorem Db {S:St} {x:Nm} {c:Ch} {t:Nat} {av:AV} (h:(S.new x c).ph t=some av):S.ph t=some av∧av.has x=false:=by
 unfold St.new at h
 simp only at h
 cases hs:S.ph t with
 | none=>rw [hs] at h;cases h
 | some b=>
  rw [hs] at h
  simp only [Option.bind_some] at h
  cases hb:b.has x with
  | true=>rw [hb] at h;cases h
  | false=>rw [hb] at h;simp at h;subst h;exact ⟨rfl,hb⟩
theorem dY.fU (h:dY w0 ω0 nt S η ω a w) {t:Nat} {av:AV} {u:Value} (ht:t < nt) (hd:Den η av u):dY w0 ω0 nt (S.put t av) η ω (a.put (some t) u) w:=
 {dfr:=h.dfr,tsz:=by simp only [Act.put,Array.size_setIfInBounds];exact h.tsz,mem:=h.mem,fr:=h.fr,phs:=h.phs,slots:=fun t' av' ht'=>by
   rw [iW] at ht'
   simp only [Act.put,Array.getElem?_setIfInBounds,h.tsz]
   by_cases e:t'=t
   ·subst e
    rw [if_pos rfl] at ht'
    obtain rfl:=Option.some.inj ht'
    exact ⟨u,by simp [ht],hd⟩
   ·rw [if_neg e] at ht'
    obtain ⟨u',h1,h2⟩:=h.slots t' av' ht'
    exact ⟨u',by rw [if_neg fun e'=>e e'.symm];exact h1,h2⟩ }
theorem lN.get {own:Bool} {ow:Nm×Option Nat} {h:Hd} {E:TypeId} {len:Nat} {cell:Nat→Value→Prop} (hv:lN own ω w ow h E len cell) {j:Nat} (hj:j < len):
  ∃b o u,h.ao=some ⟨b,o,none⟩∧w.cell? ⟨b,o + j,none⟩=some u∧cell j u:=by
 cases own with
 | true=>
  rcases hv with ⟨_,_,h0⟩ | ⟨b,o,cs,h1,_,h2,_,_,_,h3⟩
  ·omega
  ·obtain ⟨u,hu,hc⟩:=h3 j hj
   exact ⟨b,o,u,h1,by rw [cell_of_row w b (o + j) cs E (0,0) h2];exact hu,hc⟩
 | false=>
  obtain ⟨b,o,u,h1,_,_,h2,h3⟩:=hv.2 j hj
  exact ⟨b,o,u,h1,h2,h3⟩
theorem lN.cap {own:Bool} {ow:Nm×Option Nat} {h:Hd} {E:TypeId} {len:Nat} {cell:Nat→Value→Prop} (hv:lN own ω w ow h E len cell):len≤h.c * h.k:=by
 cases own with
 | true=>rcases hv with ⟨_,_,h0⟩ | ⟨b,o,cs,h1,_,h2,_,h3,_⟩<;>omega
 | false=>exact hv.1
end
end Go.Proofs.YtekbhbcgoadciaaGreat
namespace Go.Proofs.YtekbhbcgoadciaaGreat
open Go.RowKit
def A1.mono (η η':Env) (a:A1):Prop:=∀x,a.has x=true→η'.h x=none∨(η'.h x=η.h x∧∀i,η'.r x i=η.r x i)
theorem yv (x:Nat):Nat.beq x x=true:=by simp
theorem c6.mono {η η':Env} {a:A1} {u:Value} (hm:a.mono η η') (h:c6 η a u):c6 η' a u:=by
 cases a with
 | val v=>exact h
 | any=>exact h
 | sl x off n=>exact ⟨h.1,fun hd he=>(hm x (yv x)).elim (fun e=>by rw [e] at he;cases he) (fun e=>h.2 hd (e.1 ▸ he))⟩
 | ptr x off=>exact ⟨h.1,fun hd he=>(hm x (yv x)).elim (fun e=>by rw [e] at he;cases he) (fun e=>h.2 hd (e.1 ▸ he))⟩
 | esl x i off n=>exact ⟨h.1,fun hd he=>(hm x (yv x)).elim (fun e=>by rw [e] at he;cases he) (fun e=>by rw [e.2 i];exact h.2 hd (e.1 ▸ he))⟩
 | eptr x i off=>exact ⟨h.1,fun hd he=>(hm x (yv x)).elim (fun e=>by rw [e] at he;cases he) (fun e=>by rw [e.2 i];exact h.2 hd (e.1 ▸ he))⟩
 | clo f xs=>
  obtain ⟨us,h1,h2,h3⟩:=h
  refine ⟨us,h1,h2,fun j p hp=> ?_⟩
  obtain ⟨q,hq,hq1,hq2⟩:=h3 j p hp
  refine ⟨q,hq,hq1,fun hd he=> ?_⟩
  have hx:(A1.clo f xs).has p.1=true:=by simp only [A1.has,List.any_eq_true];exact ⟨p,List.mem_of_getElem? hp,yv _⟩
  exact (hm p.1 hx).elim (fun e=>by rw [e] at he;cases he) (fun e=>hq2 hd (e.1 ▸ he))
theorem c6.one {η:Env} {a:A1} {u:Value} (h:c6 η a u) (hv:∀v,a= .val v→v.oneCell'=true):u.oneCell'=true:=by
 cases a with
 | val v=>have h:u=v:=h;subst h;exact hv _ rfl
 | any=>exact h
 | sl x off n=>obtain ⟨⟨ao,c,rfl⟩,_⟩:=h;rfl
 | ptr x off=>obtain ⟨⟨ao,rfl⟩,_⟩:=h;rfl
 | esl x i off n=>obtain ⟨⟨ao,c,rfl⟩,_⟩:=h;rfl
 | eptr x i off=>obtain ⟨⟨ao,rfl⟩,_⟩:=h;rfl
 | clo f xs=>obtain ⟨us,rfl,_⟩:=h;rfl
theorem xH {a:A1} {x:Nm} (h:a.has x=true):∀v,a= .val v→v.oneCell'=true:=by rintro v rfl;cases h
theorem c6.forget {η η':Env} {a:A1} {u:Value} {x:Nm} (hm:∀y,y≠x→η'.h y=none∨(η'.h y=η.h y∧∀i,η'.r y i=η.r y i)) (h:c6 η a u):c6 η' (a.forget x) u:=by
 unfold A1.forget
 cases hx:a.has x with
 | true=>exact h.one (xH hx)
 | false=>exact c6.mono (a:=a) (fun y hy=>hm y fun e=>by rw [e,hx] at hy;cases hy) h
def A2.mono (η η':Env) (a:A2):Prop:=∀x,a.has x=true→η'.h x=none∨(η'.h x=η.h x∧∀i,η'.r x i=η.r x i)
theorem gj.mono {η η':Env} {a:A2} {u:Value} (hm:a.mono η η') (h:gj η a u):gj η' a u:=by
 cases a with
 | one a=>exact c6.mono hm h
 | agg l=>
  obtain ⟨us,h1,h2,h3⟩:=h
  refine ⟨us,h1,h2,fun j a ha=> ?_⟩
  obtain ⟨u',h4,h5⟩:=h3 j a ha
  exact ⟨u',h4,h5.mono fun x hx=>hm x (by simp only [A2.has,List.any_eq_true];exact ⟨a,List.mem_of_getElem? ha,hx⟩)⟩
def AV.mono (η η':Env) (a:AV):Prop:=∀x,a.has x=true→η'.h x=none∨(η'.h x=η.h x∧∀i,η'.r x i=η.r x i)
theorem Den.mono {η η':Env} {a:AV} {u:Value} (hm:a.mono η η') (h:Den η a u):Den η' a u:=by
 cases a with
 | s a=>exact gj.mono hm h
 | tup l=>
  obtain ⟨us,h1,h2,h3⟩:=h
  refine ⟨us,h1,h2,fun j a ha=> ?_⟩
  obtain ⟨u',h4,h5⟩:=h3 j a ha
  exact ⟨u',h4,h5.mono fun x hx=>hm x (by simp only [AV.has,List.any_eq_true];exact ⟨a,List.mem_of_getElem? ha,hx⟩)⟩
section
variable {w0 w w':World} {ω0:ml} {ω ω':bY} {nt:Nat} {S:St} {η η':Env} {a:Act}
def Same (ω:bY) (w:World) (ω':bY) (w':World) (p:Option (Nm×Option Nat)→Prop):Prop:=
 w.heap.size≤w'.heap.size∧∀b,b < w.heap.size→p (ω b)→w'.heap[b]? =w.heap[b]? ∧ω' b=ω b
theorem fm {b:Nat} {o:Obj} (h:w.heap[b]? =some o):b < w.heap.size:=by
 rcases Nat.lt_or_ge b w.heap.size with hlt | hge
 ·exact hlt
 ·rw [Array.getElem?_eq_none hge] at h;cases h
theorem lN.same {own:Bool} {ow:Nm×Option Nat} {h:Hd} {E:TypeId} {len:Nat} {cell cell':Nat→Value→Prop} {p:Option (Nm×Option Nat)→Prop} (hs:Same ω w ω' w' p) (hp:p none) (hp':p (some ow))
  (hc:∀j u,cell j u→cell' j u) (hv:lN own ω w ow h E len cell):lN own ω' w' ow h E len cell':=by
 cases own with
 | true=>
  rcases hv with h0 | ⟨b,o,cs,h1,h2,h3,h4,h5,h6,h7⟩
  ·exact .inl h0
  ·have hb:=hs.2 b (fm h3) (by rw [h2];exact hp')
   refine .inr ⟨b,o,cs,h1,hb.2.trans h2,hb.1.trans h3,h4,h5,h6,fun j hj=> ?_⟩
   obtain ⟨u,hu,hcu⟩:=h7 j hj
   exact ⟨u,hu,hc j u hcu⟩
 | false=>
  refine ⟨hv.1,fun j hj=> ?_⟩
  obtain ⟨b,o,u,h1,h2,h3,h4,h5⟩:=hv.2 j hj
  have hb:=hs.2 b h3 (by rw [h2];exact hp)
  exact ⟨b,o,u,h1,hb.2.trans h2,Nat.lt_of_lt_of_le h3 hs.1,(World.cell?_of_block hb.1).trans h4,hc j u h5⟩
theorem eA.same {x:Nm} {h:Hd} {c:Ch} {p:Option (Nm×Option Nat)→Prop} (hs:Same ω w ω' w' p) (hp:p none) (hp':∀i,p (some (x,i))) (hr:∀i,η'.r x i=η.r x i)
  (hm:∀l,c.d= .flat l→∀a∈l,a.mono η η') (hc:eA η ω w x h c):eA η' ω' w' x h c:=by
 refine ⟨hc.1,hc.2.same hs hp (hp' none) fun j u hu=> ?_⟩
 cases hd:c.d with
 | flat l=>rw [hd] at hu;exact fun a ha=>(hu a ha).mono (hm l hd a (List.mem_of_getElem? ha))
 | bR vs=>rw [hd] at hu;exact hu
 | rows E vss holes=>
  rw [hd] at hu
  refine ⟨hu.1,fun hj vs hvs=> ?_⟩
  obtain ⟨h1,h2,h3⟩:=hu.2 hj vs hvs
  rw [hr j]
  exact ⟨h1,h2,h3.same hs hp (hp' (some j)) fun _ _ h=>h⟩
 | mix cs=>rw [hd] at hu;exact ⟨hu.1,fun c hc=>(hu.2 c hc).move (hr j) fun _ _ _ _ _ h3=>h3.same hs hp (hp' (some j)) fun _ _ h=>h⟩
theorem eA.forget {x y:Nm} {h:Hd} {c:Ch} {p:Option (Nm×Option Nat)→Prop} (hs:Same ω w ω' w' p) (hp:p none) (hp':∀i,p (some (x,i))) (hr:∀i,η'.r x i=η.r x i)
  (hm:∀z,z≠y→η'.h z=none∨(η'.h z=η.h z∧∀i,η'.r z i=η.r z i)) (hc:eA η ω w x h c):eA η' ω' w' x h (c.forget y):=by
 refine ⟨hc.1, ?_⟩
 have hl:(c.forget y).d.len=c.d.len:=by unfold Ch.forget eQ.forget;cases c.d<;>simp [eQ.len]
 rw [hl]
 refine hc.2.same hs hp (hp' none) fun j u hu=> ?_
 unfold Ch.forget eQ.forget
 cases hd:c.d with
 | flat l=>
  rw [hd] at hu
  intro a ha
  simp only [List.getElem?_map,Option.map_eq_some_iff] at ha
  obtain ⟨b,hb,rfl⟩:=ha
  exact (hu b hb).forget hm
 | bR vs=>rw [hd] at hu;exact hu
 | rows E vss holes=>
  rw [hd] at hu
  refine ⟨hu.1,fun hj vs hvs=> ?_⟩
  obtain ⟨h1,h2,h3⟩:=hu.2 hj vs hvs
  rw [hr j]
  exact ⟨h1,h2,h3.same hs hp (hp' (some j)) fun _ _ h=>h⟩
 | mix cs=>rw [hd] at hu;exact ⟨hu.1,fun c hc=>(hu.2 c hc).move (hr j) fun _ _ _ _ _ h3=>h3.same hs hp (hp' (some j)) fun _ _ h=>h⟩
def live (S:St) (o:Option (Nm×Option Nat)):Prop:=o=none∨∃y i c,o=some (y,i)∧S.ch y=some c
structure Calm (S:St) (ω:bY) (w:World) (ω':bY) (w':World):Prop where
 os:w'.os=w.os
 tape:w'.tape=w.tape
 output:w'.output=w.output
 same:Same ω w ω' w' (live S)
theorem Calm.fr {ω0:bY} (h:Calm S ω w ω' w') (hf:Fr ω0 w0 ω w):Fr ω0 w0 ω' w':=
 ⟨h.os.trans hf.os,h.tape.trans hf.tape,h.output.trans hf.output,Nat.le_trans hf.size h.same.1,fun b hb hn=>by
  have h1:=hf.block b hb hn
  have h2:=h.same.2 b (Nat.lt_of_lt_of_le hb hf.size) (.inl h1.2)
  exact ⟨h2.1.trans h1.1,h2.2.trans h1.2⟩⟩
def Env.new (η:Env) (x:Nm) (hd:Hd) (r:Nat→Hd):Env:= { h:=fun y=>if y=x then some hd else η.h y,r:=fun y i=>if y=x then r i else η.r y i }
theorem Env.new_ne (η:Env) {x:Nm} (hd:Hd) (r:Nat→Hd) (y:Nm) (h:y≠x):(η.new x hd r).h y=none∨((η.new x hd r).h y=η.h y∧∀i,(η.new x hd r).r y i=η.r y i):=
 .inr ⟨by simp [Env.new,h],fun i=>by simp [Env.new,h]⟩
theorem dY.lay (h:dY w0 ω0 nt S η ω a w) {x:Nm} {c:Ch} {hd:Hd} {r:Nat→Hd} (hk:Calm S ω w ω' w') (hc:eA (η.new x hd r) ω' w' x hd c):dY w0 ω0 nt (S.new x c) (η.new x hd r) ω' a w':=
 {dfr:=h.dfr,tsz:=h.tsz,fr:=hk.fr h.fr,slots:=fun t av ht=>by
   obtain ⟨h1,h2⟩:=DJ ht
   obtain ⟨u,h3,h4⟩:=h.slots t av h1
   exact ⟨u,h3,h4.mono fun y hy=>Env.new_ne η hd r y fun e=>by rw [e,h2] at hy;cases hy⟩,phs:=fun t av ht=>by
   obtain ⟨h1,h2⟩:=Db ht
   obtain ⟨u,h3,h4⟩:=h.phs t av h1
   exact ⟨u,h3,h4.mono fun y hy=>Env.new_ne η hd r y fun e=>by rw [e,h2] at hy;cases hy⟩,mem:=⟨fun y d hy=>by
   rw [vy] at hy
   by_cases e:y=x
   ·subst e
    rw [if_pos rfl] at hy
    obtain rfl:=Option.some.inj hy
    exact ⟨hd,by simp [Env.new],hc⟩
   ·rw [if_neg e,Option.map_eq_some_iff] at hy
    obtain ⟨d',hy',rfl⟩:=hy
    obtain ⟨h',e1,e2⟩:=h.mem.1 y d' hy'
    exact ⟨h',by simp [Env.new,e,e1],e2.forget hk.same (.inl rfl) (fun i=> .inr ⟨y,i,d',rfl,hy'⟩) (fun i=>by simp [Env.new,e]) fun z hz=>Env.new_ne η hd r z hz⟩,
   fun y hy=>by
   rw [vy] at hy
   by_cases e:y=x
   ·rw [if_pos e] at hy;cases hy
   ·rw [if_neg e,Option.map_eq_none_iff] at hy
    simp [Env.new,e,h.mem.2 y hy]⟩ }
def Env.drop (η:Env) (x:Nm):Env:= { η with h:=fun y=>if y=x then none else η.h y }
theorem Env.ss (η:Env) (x y:Nm):(η.drop x).h y=none∨((η.drop x).h y=η.h y∧∀i,(η.drop x).r y i=η.r y i):=by
 by_cases e:y=x
 ·exact .inl (by simp [Env.drop,e])
 ·exact .inr ⟨by simp [Env.drop,e],fun _=>rfl⟩
theorem Same.refl (ω:bY) (w:World) (p:Option (Nm×Option Nat)→Prop):Same ω w ω w p:=⟨Nat.le_refl _,fun _ _ _=>⟨rfl,rfl⟩⟩
theorem Calm.refl (S:St) (ω:bY) (w:World):Calm S ω w ω w:=⟨rfl,rfl,rfl,Same.refl _ _ _⟩
theorem dY.drop (h:dY w0 ω0 nt S η ω a w) (x:Nm):dY w0 ω0 nt (S.rm x) (η.drop x) ω a w:=
 {dfr:=h.dfr,tsz:=h.tsz,fr:=h.fr,slots:=fun t av ht=>by
   obtain ⟨u,h3,h4⟩:=h.slots t av ht
   exact ⟨u,h3,h4.mono fun y _=>Env.ss η x y⟩,phs:=fun t av ht=>by
   obtain ⟨u,h3,h4⟩:=h.phs t av ht
   exact ⟨u,h3,h4.mono fun y _=>Env.ss η x y⟩,mem:=⟨fun y d hy=>by
   rw [fG] at hy
   by_cases e:y=x
   ·rw [if_pos e] at hy;cases hy
   ·rw [if_neg e] at hy
    obtain ⟨h',e1,e2⟩:=h.mem.1 y d hy
    exact ⟨h',by simp [Env.drop,e,e1],eA.same (η:=η) (p:=fun _=>True) (Same.refl _ _ _) trivial (fun _=>trivial) (fun _=>rfl) (fun l _ a _ z _=>Env.ss η x z) e2⟩,
   fun y hy=>by
   rw [fG] at hy
   by_cases e:y=x
   ·simp [Env.drop,e]
   ·rw [if_neg e] at hy
    simp [Env.drop,e,h.mem.2 y hy]⟩ }
theorem dY.write (h:dY w0 ω0 nt S η ω a w) {x:Nm} {c':Ch} {hd:Hd} (he:η.h x=some hd) (hk:Calm (S.rm x) ω w ω' w') (hc:eA η ω' w' x hd c'):
  dY w0 ω0 nt (S.set x c') η ω' a w':=
 {dfr:=h.dfr,tsz:=h.tsz,fr:=hk.fr h.fr,slots:=h.slots,phs:=h.phs,mem:=⟨fun y d hy=>by
   rw [ve] at hy
   by_cases e:y=x
   ·subst e
    rw [if_pos rfl] at hy
    obtain rfl:=Option.some.inj hy
    exact ⟨hd,he,hc⟩
   ·rw [if_neg e] at hy
    obtain ⟨h',e1,e2⟩:=h.mem.1 y d hy
    exact ⟨h',e1,e2.same hk.same (.inl rfl) (fun i=> .inr ⟨y,i,d,rfl,by rw [fG,if_neg e];exact hy⟩) (fun _=>rfl) fun l _ a _ z _=> .inr ⟨rfl,fun _=>rfl⟩⟩,
   fun y hy=>by
   rw [ve] at hy
   by_cases e:y=x
   ·rw [if_pos e] at hy;cases hy
   ·rw [if_neg e] at hy;exact h.mem.2 y hy⟩ }
end
end Go.Proofs.YtekbhbcgoadciaaGreat
namespace Go.Proofs.YtekbhbcgoadciaaGreat
open Go.RowKit
def cv:Value→AV
 | .agg cs=> .s (.agg (cs.toList.map .val))
 | v=>vv v
def St.op (S:St):Operand→Option AV
 | .tmp t=>S.sl t
 | .const v=>some (cv v)
 | .func f=>some (o1 (.clo (.func f) []))
 | .global _=>none
theorem G0 (η:Env) (v:Value):Den η (cv v) v:=by
 cases v<;>try exact rfl
 rename_i cs
 refine ⟨cs,rfl,by simp,fun j a ha=> ?_⟩
 simp only [List.getElem?_map,Option.map_eq_some_iff] at ha
 obtain ⟨u,hu,rfl⟩:=ha
 exact ⟨u,by simpa using hu,rfl⟩
structure cu (P:Program) (nt:Nat) (o:Oper) (S S':St):Prop where
 go:∀(w0:World) (ω0:ml) (a:Act) (w:World) (Q:Exit→Act→World→Prop),Sat w0 ω0 nt S a w→o.wp P a w (Sat w0 ω0 nt S') Q
section
variable {P:Program} {nt:Nat} {S S':St} {w0 w:World} {ω0:ml} {ω:bY} {η:Env} {a:Act}
theorem dY.iE (h:dY w0 ω0 nt S η ω a w) {x:Operand} {av:AV} (hx:S.op x=some av):Den η av (a.eval x):=by
 cases x with
 | tmp t=>
  obtain ⟨u,h1,h2⟩:=h.slots t av hx
  have:a.eval (.tmp t)=u:=by simp [Act.eval,h1]
  rw [this];exact h2
 | const v=>obtain rfl:=Option.some.inj hx;exact G0 η v
 | func f=>obtain rfl:=Option.some.inj hx;exact ⟨#[],rfl,rfl,fun j p hp=>by simp at hp⟩
 | global g=>cases hx
theorem dY.gQ (h:dY w0 ω0 nt S η ω a w) {x:Operand} {v:Value} (hx:S.op x=some (vv v)):a.eval x=v:=h.iE hx
theorem cu.of (o:Oper) (h:∀w0 ω0 η ω a w,dY w0 ω0 nt S η ω a w→∃v w',(execOp a.eval o).run P w= .ok (.value v) w'∧Sat w0 ω0 nt S' (a.put o.dst v) w'):cu P nt o S S':=by
 refine ⟨fun w0 ω0 a w Q ⟨η,ω,hs⟩=> ?_⟩
 obtain ⟨v,w',h1,h2⟩:=h w0 ω0 η ω a w hs
 unfold Oper.wp
 rw [h1]
 exact h2
theorem cu.pure {o:Oper} {t:Nat} {av:AV} (hd:o.dst=some t) (ht:Nat.blt t nt=true) (h:∀w0 ω0 η ω a w,dY w0 ω0 nt S η ω a w→∃v,(execOp a.eval o).run P w= .ok (.value v) w∧Den η av v):cu P nt o S (S.put t av):=by
 refine cu.of o fun w0 ω0 η ω a w hs=> ?_
 obtain ⟨v,h1,h2⟩:=h w0 ω0 η ω a w hs
 exact ⟨v,w,h1,η,ω,by rw [hd];exact hs.fU (by simpa using ht) h2⟩
variable {t:Nat} {ty:TypeId} {ps:String} {af:Array Edge} {gd:Option (Nat×Bool)} {x y:Operand} {av:AV}
theorem aj (ht:Nat.blt t nt=true) (hx:S.op x=some av):cu P nt ⟨some t, .move x,ty,ps,af,gd⟩ S (S.put t av):=
 cu.pure rfl ht fun _ _ η _ a _ hs=>⟨a.eval x,by simp [execOp],hs.iE hx⟩
theorem ai (ht:Nat.blt t nt=true) (hx:S.op x=some av):cu P nt ⟨some t, .assign x,ty,ps,af,gd⟩ S (S.put t av):=
 cu.pure rfl ht fun _ _ η _ a _ hs=>⟨a.eval x,by simp [execOp],hs.iE hx⟩
def eB (k:IntKind):BinOp→Int→Int→Option Value
 | .add,m,n=>some (.int k (k.wrap (m + n)))
 | .sub,m,n=>some (.int k (k.wrap (m - n)))
 | .mul,m,n=>some (.int k (k.wrap (m * n)))
 | .eql,m,n=>some (.bool (m == n))
 | .neq,m,n=>some (.bool (m != n))
 | .lss,m,n=>some (.bool (decide (m < n)))
 | .leq,m,n=>some (.bool (decide (m≤n)))
 | .gtr,m,n=>some (.bool (decide (m > n)))
 | .geq,m,n=>some (.bool (decide (m≥n)))
 | _,_,_=>none
theorem aG {op:BinOp} {xt yt:TypeId} {k:IntKind} {m n:Int} {r:Value} (ht:Nat.blt t nt=true) (hx:S.op x=some (vv (.int k m))) (hy:S.op y=some (vv (.int k n))) (hr:eB k op m n=some r):
  cu P nt ⟨some t, .binOp op xt x y yt,ty,ps,af,gd⟩ S (S.put t (vv r)):=
 cu.pure rfl ht fun _ _ η _ a w hs=>by
  refine ⟨r, ?_,rfl⟩
  simp only [execOp,hs.gQ hx,hs.gQ hy]
  cases op<;>simp only [eB,Option.some.injEq,reduceCtorEq] at hr<;>subst hr<;>simp [eqGuard,binOp,Op.intArith,Op.intCmp]
theorem aP {xt yt:TypeId} {k:IntKind} {m n r:Int} (ht:Nat.blt t nt=true) (hx:S.op x=some (vv (.int k m))) (hy:S.op y=some (vv (.int k n))) (hr:k.wrap (m + n)=r):
  cu P nt ⟨some t, .binOp .add xt x y yt,ty,ps,af,gd⟩ S (S.put t (vv (.int k r))):=hr ▸ aG ht hx hy rfl
theorem cg {xt yt:TypeId} {k:IntKind} {m n r:Int} (ht:Nat.blt t nt=true) (hx:S.op x=some (vv (.int k m))) (hy:S.op y=some (vv (.int k n))) (hr:k.wrap (m - n)=r):
  cu P nt ⟨some t, .binOp .sub xt x y yt,ty,ps,af,gd⟩ S (S.put t (vv (.int k r))):=hr ▸ aG ht hx hy rfl
theorem dV {xt yt:TypeId} {k:IntKind} {m n r:Int} (ht:Nat.blt t nt=true) (hx:S.op x=some (vv (.int k m))) (hy:S.op y=some (vv (.int k n))) (hr:k.wrap (m * n)=r):
  cu P nt ⟨some t, .binOp .mul xt x y yt,ty,ps,af,gd⟩ S (S.put t (vv (.int k r))):=hr ▸ aG ht hx hy rfl
theorem bU {xt:TypeId} {b:Bool} (ht:Nat.blt t nt=true) (hx:S.op x=some (vv (.bool b))):cu P nt ⟨some t, .unOp .not xt x,ty,ps,af,gd⟩ S (S.put t (vv (.bool !b))):=
 cu.pure rfl ht fun _ _ η _ a w hs=>⟨.bool !b,by simp [execOp,hs.gQ hx,Op.unary],rfl⟩
theorem aN {l:List A2} {i:Nat} {a2:A2} (ht:Nat.blt t nt=true) (hx:S.op x=some (.tup l)) (hi:l[i]? =some a2):cu P nt ⟨some t, .extract x i,ty,ps,af,gd⟩ S (S.put t (.s a2)):=
 cu.pure rfl ht fun _ _ η _ a w hs=>by
  obtain ⟨us,h1,h2,h3⟩:=hs.iE hx
  obtain ⟨u,h4,h5⟩:=h3 i a2 hi
  exact ⟨u,by simp [execOp,h1,Instr.extract,h4],h5⟩
theorem dY.chunk (h:dY w0 ω0 nt S η ω a w) {x:Nm} {c:Ch} (hx:S.ch x=some c):∃hd,η.h x=some hd∧hd.k=c.k∧lN c.own ω w (x,none) hd c.E c.d.len (cI η ω w c.own x c.d):=
 have ⟨hd,h1,h2,h3⟩:=h.mem.1 x c hx
 ⟨hd,h1,h2,h3⟩
theorem bC {n:Nm} {i:Nat} {c:Ch} (ht:Nat.blt t nt=true) (hx:S.op x=some (o1 (.ptr n i))) (hc:S.ch n=some c):cu P nt ⟨some t, .nilCheck x,ty,ps,af,gd⟩ S (S.put t (o1 (.ptr n i))):=
 cu.pure rfl ht fun _ _ η _ a w hs=>by
  obtain ⟨hd,h1,_⟩:=hs.chunk hc
  have hd1:c6 η (.ptr n i) (a.eval x):=hs.iE hx
  obtain ⟨b,o,e1,e2⟩:=hd1.2 hd h1
  exact ⟨a.eval x,by simp [execOp,e2],hd1⟩
def tj (P:Program) (T:TypeId) (f d:Nat):Bool:=
 match P.underlying T with
 | some (.struct fs)=>match fs[f]? with
  | some fd=>fd.offset == d && (match P.info? fd.type with | some i=>i.size != 0 | none=>false)
  | none=>false
 | _=>false
theorem wE {T:TypeId} {f d:Nat} (h:tj P T f d=true) (b o:Nat) (w:World):(Instr.fieldAt T (.pointer (some ⟨b,o,none⟩)) f).run P w= .ok (.pointer (some ⟨b,o + d,none⟩)) w:=by
 unfold tj at h
 split at h
 ·rename_i fs hfs
  split at h
  ·rename_i fd hfd
   simp only [Bool.and_eq_true,beq_iff_eq] at h
   obtain ⟨h1,h2⟩:=h
   split at h2
   ·rename_i i hi
    have h3:i.size≠0:=by simpa using h2
    subst h1
    simp [Instr.fieldAt,run_underlying hfs,hfd,Instr.sureAddr,fieldPlace,sizeOf,typeInfo,hi,h3,Addr.add_lit]
   ·cases h2
  ·cases h
 ·cases h
theorem aI {T:TypeId} {f d:Nat} {n:Nm} {i:Nat} {c:Ch} (ht:Nat.blt t nt=true) (hx:S.op x=some (o1 (.ptr n i))) (hc:S.ch n=some c) (hf:tj P T f d=true):
  cu P nt ⟨some t, .fieldAddr T x f,ty,ps,af,gd⟩ S (S.put t (o1 (.ptr n (i + d)))):=
 cu.pure rfl ht fun _ _ η _ a w hs=>by
  obtain ⟨hd,h1,_⟩:=hs.chunk hc
  have hd1:c6 η (.ptr n i) (a.eval x):=hs.iE hx
  obtain ⟨b,o,e1,e2⟩:=hd1.2 hd h1
  refine ⟨.pointer (some ⟨b,o + i + d,none⟩),by simp [execOp,e2,wE hf],⟨_,rfl⟩,fun hd' he=> ?_⟩
  rw [h1] at he;obtain rfl:=Option.some.inj he
  exact ⟨b,o,e1,by rw [Nat.add_assoc]⟩
def qe (P:Program) (T:TypeId):Bool:=
 match P.underlying T with
 | some (.struct _) | some (.array _ _) | none=>false
 | _=>true
theorem xG {T:TypeId} (h:qe P T=true) (w:World):(isAgg T).run P w= .ok false w:=by
 unfold qe at h
 cases hu:P.underlying T with
 | none=>rw [hu] at h;cases h
 | some d=>rw [hu] at h;cases d<;>first | (cases h;done) | simp [isAgg,run_underlying hu]
theorem qc {T:TypeId} (h:qe P T=true) {p:Addr} {w:World} {u:Value} (hc:w.cell? p=some u):(Instr.loadAt T (.pointer (some p))).run P w= .ok u w:=by
 simp [Instr.loadAt,Instr.sureAddr,loadVar,xG h,hc]
def eQ.at_ (x:Nm):eQ→Nat→Option A1
 | .flat l,j=>l[j]?
 | .bR vs,j=>vs[j]?.map .val
 | .rows _ vss holes,j=>if holes.contains j then none else vss[j]?.map fun vs=> .esl x j 0 vs.length
 | .mix cs,j=>match cs[j]? with
  | some (.v y)=>some (.val y)
  | some (.r _ _ m _)=>some (.esl x j 0 m)
  | some .any=>some .any
  | none=>none
theorem Ag {x:Nm} {own:Bool} {d:eQ} {j:Nat} {u:Value} {b:A1} (hu:cI η ω w own x d j u) (hb:d.at_ x j=some b):c6 η b u:=by
 cases d with
 | flat l=>exact hu b hb
 | bR vs=>
  have hu:vs[j]? =some u:=hu
  have hb:vs[j]?.map A1.val=some b:=hb
  rw [hu] at hb;simp at hb;subst hb;exact rfl
 | rows E vss holes=>
  have hb:(if holes.contains j then none else vss[j]?.map fun vs=>A1.esl x j 0 vs.length)=some b:=hb
  split at hb
  ·cases hb
  ·rename_i hh
   rw [Option.map_eq_some_iff] at hb
   obtain ⟨vs,hvs,rfl⟩:=hb
   obtain ⟨rfl,h2,_⟩:=hu.2 (by simpa using hh) vs hvs
   exact ⟨⟨_,_,rfl⟩,fun hd _=>⟨_,rfl,fun _=>rfl,fun h=>absurd h ae⟩⟩
 | mix cs=>
  simp only [eQ.at_] at hb
  cases hc:cs[j]? with
  | none=>rw [hc] at hb;cases hb
  | some c=>
   rw [hc] at hb
   have hk:=hu.2 c hc
   cases c with
   | v y=>obtain rfl:=Option.some.inj hb;exact hk
   | any=>obtain rfl:=Option.some.inj hb;exact hu.1
   | r F k m vs=>
    obtain rfl:=Option.some.inj hb
    obtain ⟨_,rfl,_,_⟩:=hk
    exact ⟨⟨_,_,rfl⟩,fun hd _=>⟨_,rfl,fun _=>rfl,fun h=>absurd h ae⟩⟩
theorem eQ.Ez {x:Nm} {d:eQ} {j:Nat} {b:A1} (h:d.at_ x j=some b):j < d.len:=by
 cases d with
 | flat l=>exact (List.getElem?_eq_some_iff.1 h).1
 | bR vs=>
  have h:vs[j]?.map A1.val=some b:=h
  rw [Option.map_eq_some_iff] at h
  obtain ⟨v,hv,_⟩:=h
  exact (List.getElem?_eq_some_iff.1 hv).1
 | rows E vss holes=>
  have h:(if holes.contains j then none else vss[j]?.map fun vs=>A1.esl x j 0 vs.length)=some b:=h
  split at h
  ·cases h
  ·rw [Option.map_eq_some_iff] at h
   obtain ⟨vs,hvs,rfl⟩:=h
   exact (List.getElem?_eq_some_iff.1 hvs).1
 | mix cs=>
  simp only [eQ.at_] at h
  cases hc:cs[j]? with
  | none=>rw [hc] at h;cases h
  | some c=>exact (List.getElem?_eq_some_iff.1 hc).1
theorem mw {T:TypeId} {n:Nm} {i:Nat} {c:Ch} {b:A1} (ht:Nat.blt t nt=true) (hT:qe P T=true) (hx:S.op x=some (o1 (.ptr n i))) (hc:S.ch n=some c) (hb:c.d.at_ n i=some b):
  cu P nt ⟨some t, .load T x,ty,ps,af,gd⟩ S (S.put t (o1 b)):=
 cu.pure rfl ht fun _ _ η _ a w hs=>by
  obtain ⟨hd,h1,_,h3⟩:=hs.chunk hc
  have hd1:c6 η (.ptr n i) (a.eval x):=hs.iE hx
  obtain ⟨bb,o,e1,e2⟩:=hd1.2 hd h1
  obtain ⟨b',o',u,f1,f2,f3⟩:=h3.get (eQ.Ez hb)
  rw [e1] at f1;injection f1 with f1;injection f1 with f1 f1';subst f1 f1'
  exact ⟨u,by simp [execOp,e2,qc hT f2],Ag f3 hb⟩
theorem CC {T:TypeId} {n:Nm} {i j:Nat} {c:Ch} {E:TypeId} {vss:List (List Value)} {holes:List Nat} {vs:List Value} {v:Value} (ht:Nat.blt t nt=true) (hT:qe P T=true) (hx:S.op x=some (o1 (.eptr n i j))) (hc:S.ch n=some c)
  (hd:c.d= .rows E vss holes) (hh:i ∉ holes) (hi:vss[i]? =some vs) (hj:vs[j]? =some v):cu P nt ⟨some t, .load T x,ty,ps,af,gd⟩ S (S.put t (vv v)):=
 cu.pure rfl ht fun _ _ η ω a w hs=>by
  obtain ⟨hq,h1,_,h3⟩:=hs.chunk hc
  have hd1:c6 η (.eptr n i j) (a.eval x):=hs.iE hx
  obtain ⟨bb,o,e1,e2⟩:=hd1.2 hq h1
  rw [hd] at h3
  obtain ⟨b',o',u,f1,f2,f3⟩:=h3.get (j:=i) (List.getElem?_eq_some_iff.1 hi).1
  obtain ⟨_,_,g3⟩:=f3.2 hh vs hi
  obtain ⟨b'',o'',u',k1,k2,k3⟩:=g3.get (j:=j) (List.getElem?_eq_some_iff.1 hj).1
  rw [e1] at k1;injection k1 with k1;injection k1 with k1 k1';subst k1 k1'
  rw [hj] at k3
  obtain rfl:=Option.some.inj k3
  exact ⟨v,by simp [execOp,e2,qc hT k2],rfl⟩
def lM (P:Program) (T:TypeId) (k:Nat):Bool:=
 match P.underlying T with
 | some (.slice e)=>match P.info? e with
  | some i=>i.size == k
  | none=>false
 | _=>false
theorem nv {T:TypeId} {k:Nat} (h:lM P T k=true):∃e i,P.underlying T=some (.slice e)∧P.info? e=some i∧i.size=k:=by
 unfold lM at h
 split at h
 ·rename_i e he
  split at h
  ·rename_i i hi
   exact ⟨e,i,he,hi,by simpa using h⟩
  ·cases h
 ·cases h
theorem kr {T:TypeId} {k:Nat} (h:lM P T k=true) {b o n c j:Nat} (hj:j < n) {ki:IntKind} {i:Int} (hi:i=(j:Int)) (w:World):
  (Instr.indexAt T (.slice (some ⟨b,o,none⟩) n c) (.int ki i)).run P w= .ok (.pointer (some ⟨b,o + j * k,none⟩)) w:=by
 obtain ⟨e,inf,h1,h2,rfl⟩:=nv h
 subst hi
 have hj':((j:Int) < (n:Int)):=by omega
 have h0:(0:Int)≤(j:Int):=by omega
 simp [Instr.indexAt,asIntOf,run_underlying h1,hj,sizeOf,typeInfo,h2,Addr.add_lit]
theorem dh {T:TypeId} {n:Nm} {off len j k:Nat} {c:Ch} {ki:IntKind} {i:Int} (ht:Nat.blt t nt=true) (hx:S.op x=some (o1 (.sl n off len))) (hy:S.op y=some (vv (.int ki i))) (hc:S.ch n=some c) (hk:c.k=k) (hT:lM P T k=true)
  (hi:i=(j:Int)) (hj:j < len) (hl:(off + len) * k≤c.d.len) (hk0:0 < k):cu P nt ⟨some t, .indexAddr T x y,ty,ps,af,gd⟩ S (S.put t (o1 (.ptr n ((off + j) * k)))):=
 cu.pure rfl ht fun _ _ η _ a w hs=>by
  obtain ⟨hd,h1,h2,h3⟩:=hs.chunk hc
  have hd1:c6 η (.sl n off len) (a.eval x):=hs.iE hx
  obtain ⟨ao,e1,e2,e3⟩:=hd1.2 hd h1
  have hl0:0 < c.d.len:=Nat.lt_of_lt_of_le (Nat.mul_pos ae hk0) hl
  obtain ⟨b',o',u,f1,f2,f3⟩:=h3.get hl0
  have hao:ao=some ⟨b',o' + off * k,none⟩:=by
   rcases Nat.eq_zero_or_pos off with h0 | h0
   ·rw [e2 h0,f1,h0];simp
   ·rw [e3 h0 ?_,f1]
    ·simp [h2,hk]
    ·have hcap:=h3.cap
     rw [h2,hk] at hcap
     have h5:(off + len) * k≤hd.c * k:=Nat.le_trans hl hcap
     have:=Nat.le_of_mul_le_mul_right h5 hk0
     omega
  subst hao
  refine ⟨.pointer (some ⟨b',o' + off * k + j * k,none⟩),by simp only [execOp,e1,hs.gQ hy];simp [kr hT hj hi],⟨_,rfl⟩,fun hd' he=> ?_⟩
  rw [h1] at he;obtain rfl:=Option.some.inj he
  exact ⟨b',o',f1,by rw [Nat.add_mul,Nat.add_assoc]⟩
end
end Go.Proofs.YtekbhbcgoadciaaGreat
namespace Go.Proofs.YtekbhbcgoadciaaGreat
open Go.RowKit
section
variable {P:Program} {nt:Nat} {S S':St} {w0 w:World} {ω0:ml} {ω:bY} {η:Env} {a:Act}
variable {t:Nat} {ty:TypeId} {ps:String} {af:Array Edge} {gd:Option (Nat×Bool)} {x y:Operand} {av:AV}
theorem sC {T:TypeId} {n:Nm} {i0 off len j:Nat} {c:Ch} {E:TypeId} {vss:List (List Value)} {holes:List Nat} {vs:List Value} {ki:IntKind} {i:Int} (ht:Nat.blt t nt=true) (hx:S.op x=some (o1 (.esl n i0 off len)))
  (hy:S.op y=some (vv (.int ki i))) (hc:S.ch n=some c) (hd:c.d= .rows E vss holes) (hT:lM P T 1=true) (hh:i0 ∉ holes) (hi0:vss[i0]? =some vs) (hi:i=(j:Int)) (hj:j < len) (hl:off + len≤vs.length):
  cu P nt ⟨some t, .indexAddr T x y,ty,ps,af,gd⟩ S (S.put t (o1 (.eptr n i0 (off + j)))):=
 cu.pure rfl ht fun _ _ η _ a w hs=>by
  obtain ⟨hq,h1,h2,h3⟩:=hs.chunk hc
  have hd1:c6 η (.esl n i0 off len) (a.eval x):=hs.iE hx
  obtain ⟨ao,e1,e2,e3⟩:=hd1.2 hq h1
  rw [hd] at h3
  obtain ⟨_,_,_,_,_,f3⟩:=h3.get (j:=i0) (List.getElem?_eq_some_iff.1 hi0).1
  obtain ⟨_,g2,g3⟩:=f3.2 hh vs hi0
  obtain ⟨b',o',u',k1,k2,k3⟩:=g3.get (j:=0) ae
  have hao:ao=some ⟨b',o' + off,none⟩:=by
   rcases Nat.eq_zero_or_pos off with h0 | h0
   ·rw [e2 h0,k1,h0];simp
   ·rw [e3 h0 ?_,k1]
    ·simp [g2]
    ·have hcap:=g3.cap
     rw [g2] at hcap
     omega
  subst hao
  refine ⟨.pointer (some ⟨b',o' + off + j * 1,none⟩),by simp only [execOp,e1,hs.gQ hy];simp [kr hT hj hi],⟨_,rfl⟩,fun hd' he=> ?_⟩
  exact ⟨b',o',k1,by rw [Nat.mul_one,Nat.add_assoc]⟩
def G1 (P:Program) (T:TypeId) (n k:Nat):Bool:=
 match P.underlying T with
 | some (.array m e)=>m == n && (match P.info? e with | some i=>i.size == k | none=>false)
 | _=>false
theorem CX {T:TypeId} {n k:Nat} (h:G1 P T n k=true):∃e i,P.underlying T=some (.array n e)∧P.info? e=some i∧i.size=k:=by
 unfold G1 at h
 split at h
 ·rename_i m e he
  simp only [Bool.and_eq_true,beq_iff_eq] at h
  obtain ⟨rfl,h⟩:=h
  split at h
  ·rename_i i hi
   exact ⟨e,i,he,hi,by simpa using h⟩
  ·cases h
 ·cases h
theorem dx {T:TypeId} {n:Nm} {off len j k:Nat} {c:Ch} {ki:IntKind} {i:Int} (ht:Nat.blt t nt=true) (hx:S.op x=some (o1 (.ptr n off))) (hy:S.op y=some (vv (.int ki i))) (hc:S.ch n=some c) (hT:G1 P T len k=true)
  (hi:i=(j:Int)) (hj:j < len):cu P nt ⟨some t, .indexAddr T x y,ty,ps,af,gd⟩ S (S.put t (o1 (.ptr n (off + j * k)))):=
 cu.pure rfl ht fun _ _ η _ a w hs=>by
  obtain ⟨hd,h1,h2,h3⟩:=hs.chunk hc
  have hd1:c6 η (.ptr n off) (a.eval x):=hs.iE hx
  obtain ⟨b,o,e1,e2⟩:=hd1.2 hd h1
  obtain ⟨e,inf,g1,g2,rfl⟩:=CX hT
  subst hi
  have hj':((j:Int) < (len:Int)):=by omega
  refine ⟨.pointer (some ⟨b,o + off + j * inf.size,none⟩), ?_,⟨_,rfl⟩,fun hd' he=> ?_⟩
  ·simp only [execOp,e2,hs.gQ hy]
   simp [Instr.indexAt,asIntOf,run_underlying g1,Instr.sureAddr,hj,sizeOf,typeInfo,g2,Addr.add_lit]
  ·rw [h1] at he;obtain rfl:=Option.some.inj he
   exact ⟨b,o,e1,by rw [Nat.add_assoc]⟩
def sliceB (P:Program) (T:TypeId):Bool:=
 match P.underlying T with
 | some (.slice _)=>true
 | _=>false
theorem lX {T:TypeId} (h:sliceB P T=true):∃e,P.underlying T=some (.slice e):=by
 unfold sliceB at h
 split at h
 ·exact ⟨_,by assumption⟩
 ·cases h
theorem Gc {T:TypeId} (h:sliceB P T=true) (ao:Option Addr) (n c:Nat) (w:World):(Builtin.len_ #[T] ty #[.slice ao n c]).run P w= .ok (.int .i64 n) w:=by
 obtain ⟨e,he⟩:=lX h
 simp [Builtin.len_,run_underlying he,goInt]
def A1.len:A1→Option Nat
 | .sl _ _ n=>some n
 | .esl _ _ _ n=>some n
 | .val (.slice _ n _)=>some n
 | _=>none
theorem c6.len_ {b:A1} {n:Nat} {u:Value} (h:c6 η b u) (hn:b.len=some n):∃ao c,u= .slice ao n c:=by
 cases b with
 | sl x off m=>obtain rfl:=Option.some.inj hn;exact h.1
 | esl x i off m=>obtain rfl:=Option.some.inj hn;exact h.1
 | val v=>
  have h:u=v:=h
  subst h
  cases u<;>simp [A1.len] at hn
  rename_i ao m c
  subst hn;exact ⟨ao,c,rfl⟩
 | _=>cases hn
theorem bw {T:TypeId} {b:A1} {n:Nat} (ht:Nat.blt t nt=true) (hx:S.op x=some (o1 b)) (hn:b.len=some n) (hT:sliceB P T=true):
  cu P nt ⟨some t, .call { callee:= .builtin .len,args:= #[x],argTypes:= #[T] },ty,ps,af,gd⟩ S (S.put t (vv (.int .i64 n))):=
 cu.pure rfl ht fun _ _ η _ a w hs=>by
  have hd1:c6 η b (a.eval x):=hs.iE hx
  obtain ⟨ao,c,e⟩:=hd1.len_ hn
  exact ⟨.int .i64 n,by simp [execOp,resolve,invoke,builtin,e,Gc hT],rfl⟩
theorem Fm {k:IntKind} {m n:Int} (w:World) (ts:Array TypeId):(Builtin.min_ ts ty #[.int k m, .int k n]).run P w= .ok (.int k (if n < m then n else m)) w:=by
 simp [Builtin.min_,Builtin.min2]
theorem Gt {k:IntKind} {m n:Int} (w:World) (ts:Array TypeId):(Builtin.max_ ts ty #[.int k m, .int k n]).run P w= .ok (.int k (if n > m then n else m)) w:=by
 simp [Builtin.max_,Builtin.max2]
theorem Fw {ts:Array TypeId} {k:IntKind} {m n:Int} (ht:Nat.blt t nt=true) (hx:S.op x=some (vv (.int k m))) (hy:S.op y=some (vv (.int k n))):
  cu P nt ⟨some t, .call { callee:= .builtin .min,args:= #[x,y],argTypes:=ts },ty,ps,af,gd⟩ S (S.put t (vv (.int k (if n < m then n else m)))):=
 cu.pure rfl ht fun _ _ η _ a w hs=>⟨_,by simp [execOp,resolve,invoke,builtin,hs.gQ hx,hs.gQ hy,Fm],rfl⟩
theorem AN {ts:Array TypeId} {k:IntKind} {m n:Int} (ht:Nat.blt t nt=true) (hx:S.op x=some (vv (.int k m))) (hy:S.op y=some (vv (.int k n))):
  cu P nt ⟨some t, .call { callee:= .builtin .max,args:= #[x,y],argTypes:=ts },ty,ps,af,gd⟩ S (S.put t (vv (.int k (if n > m then n else m)))):=
 cu.pure rfl ht fun _ _ η _ a w hs=>⟨_,by simp [execOp,resolve,invoke,builtin,hs.gQ hx,hs.gQ hy,Gt],rfl⟩
def CR (S:St) (z:Option Operand) (dflt l:Nat):Prop:=
 match z with
 | none=>l=dflt
 | some z=>∃ki i,S.op z=some (vv (.int ki i))∧i=(l:Int)
theorem dN {S:St} {l:Nat} :CR S none l l:=rfl
theorem eN {S:St} {z:Operand} {d l:Nat} {ki:IntKind} {i:Int} (h:S.op z=some (vv (.int ki i))) (hi:i=(l:Int)):CR S (some z) d l:=⟨ki,i,h,hi⟩
theorem run_sliceBound {ki:IntKind} {l y:Nat} (h:l≤y) (cd:BoundsCode) (w:World):(Instr.sliceBound (.int ki (l:Int)) y cd).run P w= .ok l w:=by
 simp [Instr.sliceBound,asIntOf,h]
theorem sj {T:TypeId} {e:TypeId} {inf:TypeInfo} (h1:P.underlying T=some (.slice e)) (h2:P.info? e=some inf) (hs:dY w0 ω0 nt S η ω a w) {lo hi:Option Operand} {l h len m:Nat} {ao:Option Addr} (hlo:CR S lo 0 l) (hhi:CR S hi len h) (hlh:l≤h) (hhm:h≤m):
  (Instr.sliceAt T (.slice ao len m) (lo.map a.eval) (hi.map a.eval) none).run P w= .ok (.slice (if m=l then ao else ao.map (·.add (l * inf.size))) (h - l) (m - l)) w:=by
 have key:(Instr.sliceBounds true len m (lo.map a.eval) (hi.map a.eval) none).run P w= .ok (l,h,m) w:=by
  unfold Instr.sliceBounds
  cases hi with
  | none=>
   obtain rfl:h=len:=hhi
   cases lo with
   | none=>obtain rfl:l=0:=hlo;simp
   | some z=>obtain ⟨ki,i,hz,rfl⟩:=hlo;simp [hs.gQ hz,run_sliceBound hlh]
  | some z'=>
   obtain ⟨ki',i',hz',rfl⟩:=hhi
   cases lo with
   | none=>obtain rfl:l=0:=hlo;simp [hs.gQ hz',run_sliceBound hhm]
   | some z=>obtain ⟨ki,i,hz,rfl⟩:=hlo;simp [hs.gQ hz',hs.gQ hz,run_sliceBound hhm,run_sliceBound hlh]
 simp [Instr.sliceAt,run_underlying h1,Instr.slice,key,sizeOf,typeInfo,h2]
theorem kT {T:TypeId} {n:Nm} {off len k l h:Nat} {c:Ch} {lo hi:Option Operand} (ht:Nat.blt t nt=true) (hx:S.op x=some (o1 (.sl n off len))) (hc:S.ch n=some c) (hk:c.k=k) (hT:lM P T k=true) (hk0:0 < k)
  (hlo:CR S lo 0 l) (hhi:CR S hi len h) (hlh:l≤h) (hhl:h≤len) (hl:(off + len) * k≤c.d.len):cu P nt ⟨some t, .slice T x lo hi none,ty,ps,af,gd⟩ S (S.put t (o1 (.sl n (off + l) (h - l)))):=
 cu.pure rfl ht fun _ _ η _ a w hs=>by
  obtain ⟨hd,h1,h2,h3⟩:=hs.chunk hc
  have hd1:c6 η (.sl n off len) (a.eval x):=hs.iE hx
  obtain ⟨ao,e1,e2,e3⟩:=hd1.2 hd h1
  obtain ⟨e,inf,g1,g2,rfl⟩:=nv hT
  have hcap:=h3.cap
  rw [h2,hk] at hcap
  have h5:off + len≤hd.c:=Nat.le_of_mul_le_mul_right (Nat.le_trans hl hcap) hk0
  refine ⟨.slice (if hd.c - off=l then ao else ao.map (·.add (l * inf.size))) (h - l) (hd.c - off - l),by simp only [execOp,e1];simp [sj g1 g2 hs hlo hhi hlh (m:=hd.c - off) ae],⟨_,_,rfl⟩,fun hd' he=> ?_⟩
  rw [h1] at he;obtain rfl:=Option.some.inj he
  refine ⟨_,by rw [Nat.sub_sub],fun h0=> ?_,fun h0 hlt=> ?_⟩
  ·obtain ⟨rfl,rfl⟩:off=0∧l=0:=by omega
   rw [e2 rfl]
   split
   ·rfl
   ·simp [Addr.add]
  ·rw [if_neg ae]
   by_cases hl0:0 < c.d.len
   ·obtain ⟨b',o',u,f1,_,_⟩:=h3.get hl0
    rcases Nat.eq_zero_or_pos off with h00 | h00
    ·subst h00;rw [e2 rfl,f1];simp [Addr.add_lit,h2,hk]
    ·rw [e3 h00 ae,f1];simp [Addr.add_lit,h2,hk,Nat.add_mul,Nat.add_assoc]
   ·exfalso
    have h6:(off + len) * inf.size≤0:=by omega
    have h7:off + len=0:=by
     rcases Nat.eq_zero_or_pos (off + len) with h8 | h8
     ·exact h8
     ·have:=Nat.mul_pos h8 hk0;omega
    omega
end
end Go.Proofs.YtekbhbcgoadciaaGreat
namespace Go.Proofs.YtekbhbcgoadciaaGreat
open Go.RowKit
section
variable {P:Program} {nt:Nat} {S S':St} {w0 w:World} {ω0:ml} {ω:bY} {η:Env} {a:Act}
variable {t:Nat} {ty:TypeId} {ps:String} {af:Array Edge} {gd:Option (Nat×Bool)} {x y:Operand} {av:AV}
def bY.new (ω:bY) (b:Nat) (o:Nm×Option Nat):bY:=fun b'=>if b'=b then some o else ω b'
theorem As (S:St) (ω:bY) (w:World) (o:Obj) (ow:Nm×Option Nat):Calm S ω w (bY.new ω w.heap.size ow) (w.alloc o):=
 ⟨rfl,rfl,rfl,by simp,fun b hb _=>⟨Below.heap_alloc w o b hb,by simp [bY.new,Nat.ne_of_lt hb]⟩⟩
theorem dY.alloc (h:dY w0 ω0 nt S η ω a w) {x:Nm} {c:Ch} {cs:Array Value} {r:Nat→Hd} {n:Nat} (hown:c.own=true) (hn:cs.size=n * c.k) (hl:c.d.len≤n * c.k) (hm:n≤maxLen)
  (hc:∀j,j < c.d.len→∃u,cs[j]? =some u∧cI (η.new x ⟨some ⟨w.heap.size,0,none⟩,n,c.k⟩ r) (bY.new ω w.heap.size (x,none)) (w.alloc (.cells cs c.E)) true x c.d j u):
  dY w0 ω0 nt (S.new x c) (η.new x ⟨some ⟨w.heap.size,0,none⟩,n,c.k⟩ r) (bY.new ω w.heap.size (x,none)) a (w.alloc (.cells cs c.E)):=
 h.lay (As S ω w _ _) ⟨rfl,by
  rw [hown]
  refine .inr ⟨w.heap.size,0,cs,rfl,by simp [bY.new],heap_alloc_new w _,⟨rfl,hn⟩,hl,hm,fun j hj=> ?_⟩
  obtain ⟨u,h1,h2⟩:=hc j hj
  exact ⟨u,by simpa using h1,h2⟩⟩
def A2.list:A2→List A1
 | .one a=> [a]
 | .agg l=>l
theorem Am {a2:A2} {u:Value} (h:gj η a2 u) (h1:∀v,a2= .one (.val v)→v.oneCell'=true):u.cells.size=a2.list.length∧∀(j:Nat) (b:A1),a2.list[j]? =some b→∃u',u.cells[j]? =some u'∧c6 η b u':=by
 cases a2 with
 | agg l=>
  obtain ⟨us,rfl,h2,h3⟩:=h
  exact ⟨h2,h3⟩
 | one b=>
  have ho:u.oneCell'=true:=c6.one (a:=b) h fun v hv=>h1 v (by rw [hv])
  have hc:u.cells= #[u]:=by cases u<;>first | rfl | cases ho
  rw [hc]
  refine ⟨rfl,fun j b' hb=> ?_⟩
  cases j with
  | zero=>simp [A2.list] at hb;subst hb;exact ⟨u,by simp,h⟩
  | succ j=>simp [A2.list] at hb
def A2.okB:A2→Bool
 | .one (.val v)=>v.oneCell'
 | _=>true
theorem A2.mo {a2:A2} (h:a2.okB=true):∀v,a2= .one (.val v)→v.oneCell'=true:=by rintro v rfl;exact h
theorem cF {T:TypeId} {a2:A2} (ht:Nat.blt t nt=true) (hx:S.op x=some (.s a2)) (h1:a2.okB=true) (hf:a2.list.any (A1.has t)=false):
  cu P nt ⟨some t, .box T x,ty,ps,af,gd⟩ S ((S.new t ⟨true,T,a2.list.length, .flat a2.list⟩).put t (o1 (.ptr t 0))):=
 cu.of _ fun w0 ω0 η ω a w hs=>by
  have hd:gj η a2 (a.eval x):=hs.iE hx
  obtain ⟨h2,h3⟩:=Am hd (A2.mo h1)
  refine ⟨.pointer (some ⟨w.heap.size,0,none⟩),w.alloc (.cells (a.eval x).cells T),by simp [execOp,Instr.box,newVar,newRow], ?_⟩
  have hal:=hs.alloc (x:=t) (c:=⟨true,T,a2.list.length, .flat a2.list⟩) (cs:=(a.eval x).cells) (r:=fun _=>⟨none,0,1⟩) (n:=1) rfl (by simp [h2]) (by simp [eQ.len]) (by simp [maxLen]) fun j hj=>by
   obtain ⟨u,hu,hdu⟩:=h3 j a2.list[j] (List.getElem?_eq_getElem hj)
   refine ⟨u,hu,fun b hb=> ?_⟩
   rw [List.getElem?_eq_getElem hj] at hb
   obtain rfl:=Option.some.inj hb
   refine hdu.mono fun y hy=>Env.new_ne η _ _ y fun e=> ?_
   subst e
   have:=List.any_eq_false.1 hf _ (List.getElem_mem hj)
   rw [hy] at this;exact this rfl
  exact ⟨_,_,hal.fU (by simpa using ht) ⟨⟨_,rfl⟩,fun hd' he=>by simp [Env.new] at he;subst he;exact ⟨_,0,rfl,by simp⟩⟩⟩
theorem BX {T:TypeId} {z:Value} {i:TypeInfo} (ht:Nat.blt t nt=true) (hi:P.info? T=some i) (hz:i.zero=some z):
  cu P nt ⟨some t, .alloc T,ty,ps,af,gd⟩ S ((S.new t ⟨true,T,z.cells.size, .flat (z.cells.toList.map .val)⟩).put t (o1 (.ptr t 0))):=
 cu.of _ fun w0 ω0 η ω a w hs=>by
  refine ⟨.pointer (some ⟨w.heap.size,0,none⟩),w.alloc (.cells z.cells T),by simp [execOp,Instr.alloc,zeroValue,typeInfo,hi,hz,newVar,newRow], ?_⟩
  have hal:=hs.alloc (x:=t) (c:=⟨true,T,z.cells.size, .flat (z.cells.toList.map .val)⟩) (cs:=z.cells) (r:=fun _=>⟨none,0,1⟩) (n:=1) rfl (by simp) (by simp [eQ.len]) (by simp [maxLen]) fun j hj=>by
   have hj':j < z.cells.size:=by simpa [eQ.len] using hj
   refine ⟨z.cells[j],by simp,fun b hb=> ?_⟩
   simp [hj'] at hb
   subst hb;exact rfl
  exact ⟨_,_,hal.fU (by simpa using ht) ⟨⟨_,rfl⟩,fun hd' he=>by simp [Env.new] at he;subst he;exact ⟨_,0,rfl,by simp⟩⟩⟩
def pN (P:Program) (T E k:Nat):Bool:=
 match P.underlying T with
 | some (.slice e)=>e == E && (match P.info? E with
  | some i=>i.size == k && decide (i.bytes≤64) && (match i.zero with | some z=>z.cells.size == k | none=>false)
  | none=>false)
 | _=>false
theorem ep {T E k:Nat} (h:pN P T E k=true):∃i z,P.underlying T=some (.slice E)∧P.info? E=some i∧i.size=k∧i.bytes≤64∧i.zero=some z∧z.cells.size=k:=by
 unfold pN at h
 split at h
 ·rename_i e he
  simp only [Bool.and_eq_true,beq_iff_eq] at h
  obtain ⟨rfl,h⟩:=h
  split at h
  ·rename_i i hi
   simp only [Bool.and_eq_true,beq_iff_eq,decide_eq_true_eq] at h
   obtain ⟨⟨h1,h2⟩,h3⟩:=h
   split at h3
   ·rename_i z hz
    exact ⟨i,z,he,hi,h1,h2,hz,by simpa using h3⟩
   ·cases h3
  ·cases h
 ·cases h
theorem eF {x:Nm} {b k n c:Nat} {r:Nat→Hd} :Den (η.new x ⟨some ⟨b,0,none⟩,c,k⟩ r) (o1 (.sl x 0 n)) (.slice (some ⟨b,0,none⟩) n c):=
 ⟨⟨_,_,rfl⟩,fun hd' he=>by simp [Env.new] at he;subst he;exact ⟨_,rfl,fun _=>rfl,fun h=>absurd h ae⟩⟩
theorem E3 (f:Nat→Value):Array.map f (Array.range 0)= #[]:=by apply Array.ext';simp [Array.toList_range,List.range_succ]
theorem Au (f:Nat→Value):Array.map f (Array.range 1)= #[f 0]:=by apply Array.ext';simp [Array.toList_range,List.range_succ]
theorem y8 (f:Nat→Value):Array.map f (Array.range 2)= #[f 0,f 1]:=by apply Array.ext';simp [Array.toList_range,List.range_succ]
theorem ey {T E k:Nat} (ht:Nat.blt t nt=true) (hT:pN P T E k=true):
  cu P nt ⟨some t, .buildSlice T 0 #[],ty,ps,af,gd⟩ S ((S.new t ⟨true,E,k, .bR []⟩).put t (o1 (.sl t 0 0))):=
 cu.of _ fun w0 ω0 η ω a w hs=>by
  obtain ⟨i,z,h1,h2,h3,h4,h5,h6⟩:=ep hT
  refine ⟨.slice (some ⟨w.heap.size,0,none⟩) 0 0,w.alloc (.cells #[] E),by simp [execOp,Instr.buildSlice,run_underlying h1,sizeOf,typeInfo,h2,Instr.fill,newRow,E3], ?_⟩
  have hal:=hs.alloc (x:=t) (c:=⟨true,E,k, .bR []⟩) (cs:= #[]) (r:=fun _=>⟨none,0,1⟩) (n:=0) rfl (by simp) (by simp [eQ.len]) (by simp [maxLen]) fun j hj=>absurd hj (by simp [eQ.len])
  exact ⟨_,_,hal.fU (by simpa using ht) eF⟩
theorem kK {v:Value} (h:v.oneCell'=true):v.cells= #[v]:=by cases v<;>first | rfl | cases h
theorem lW {T E:Nat} {x0:Operand} {b0:A1} (ht:Nat.blt t nt=true) (hT:pN P T E 1=true) (hx:S.op x0=some (o1 b0)) (h1:(A2.one b0).okB=true) (hf:b0.has t=false):
  cu P nt ⟨some t, .buildSlice T 1 #[(0,x0)],ty,ps,af,gd⟩ S ((S.new t ⟨true,E,1, .flat [b0]⟩).put t (o1 (.sl t 0 1))):=
 cu.of _ fun w0 ω0 η ω a w hs=>by
  obtain ⟨i,z,k1,k2,k3,k4,k5,k6⟩:=ep hT
  have hd0:c6 η b0 (a.eval x0):=hs.iE hx
  have ho:(a.eval x0).oneCell'=true:=hd0.one fun v hv=>A2.mo h1 v (by rw [hv])
  refine ⟨.slice (some ⟨w.heap.size,0,none⟩) 1 1,w.alloc (.cells #[a.eval x0] E), ?_, ?_⟩
  ·simp [execOp,Instr.buildSlice,run_underlying k1,sizeOf,typeInfo,k2,k3,zeroValue,k5,Instr.fill,newRow,kK ho,Au]
  ·have hal:=hs.alloc (x:=t) (c:=⟨true,E,1, .flat [b0]⟩) (cs:= #[a.eval x0]) (r:=fun _=>⟨none,0,1⟩) (n:=1) rfl (by simp) (by simp [eQ.len]) (by simp [maxLen]) fun j hj=>by
    have hj0:j=0:=by simp [eQ.len] at hj;omega
    subst hj0
    refine ⟨a.eval x0,by simp,fun b hb=> ?_⟩
    simp at hb;subst hb
    exact hd0.mono fun y hy=>Env.new_ne η _ _ y fun e=>by subst e;rw [hf] at hy;cases hy
   exact ⟨_,_,hal.fU (by simpa using ht) eF⟩
end
end Go.Proofs.YtekbhbcgoadciaaGreat
namespace Go.Proofs.YtekbhbcgoadciaaGreat
open Go.RowKit
section
variable {P:Program} {nt:Nat} {S S':St} {w0 w:World} {ω0:ml} {ω:bY} {η:Env} {a:Act}
variable {t:Nat} {ty:TypeId} {ps:String} {af:Array Edge} {gd:Option (Nat×Bool)} {x y:Operand} {av:AV}
def jd (P:Program) (T:TypeId) (k:Nat):Bool:=
 match P.info? T with
 | some i=>i.size == k
 | none=>false
theorem pK {T:TypeId} {k:Nat} (h:jd P T k=true) (w:World):(sizeOf T).run P w= .ok k w:=by
 unfold jd at h
 split at h
 ·rename_i i hi
  have:i.size=k:=by simpa using h
  simp [sizeOf,typeInfo,hi,this]
 ·cases h
theorem lu {T:TypeId} (h:jd P T 1=true) {p:Addr} {u v:Value} (hc:w.cell? p=some u) (hf:w.frozen? p=false) (h1:v.oneCell'=true):(Instr.storeAt T (.pointer (some p)) v).run P w= .ok () (w.setCell p v):=by
 have hst:(store p v).run P w= .ok () (w.setCell p v):=by
  cases v<;>first | (simp [store,Sem.run,hc,hf];done) | exact absurd h1 (by simp [Value.oneCell'])
 simp [Instr.storeAt,Instr.sureAddr,storeVar,kK h1,pK h,storeCells,Addr.add,hst]
theorem cu.unit {o:Oper} (hd:o.dst=none) (h:∀w0 ω0 η ω a w,dY w0 ω0 nt S η ω a w→∃w',(execOp a.eval o).run P w= .ok .skip w'∧Sat w0 ω0 nt S' a w'):cu P nt o S S':=by
 refine ⟨fun w0 ω0 a w Q ⟨η,ω,hs⟩=> ?_⟩
 obtain ⟨w',h1,h2⟩:=h w0 ω0 η ω a w hs
 unfold Oper.wp
 rw [h1]
 simp only [Oper.upon,hd,Act.put]
 exact h2
theorem vz {b:Nat} {ow:Nm×Option Nat} (hb:ω b=some ow) (hn:S.ch ow.1=none) (p:Addr) (hp:p.block=b) (u:Value):Calm S ω w ω (w.setCell p u):=
 ⟨rfl,rfl,rfl,by simp [World.setCell],fun b' _ hl=>⟨Below.heap_setCell w p u b' (by
  intro e
  rw [hp] at e;subst e
  rcases hl with h0 | ⟨y,i,c,h0,h1⟩
  ·rw [hb] at h0;cases h0
  ·rw [hb] at h0;obtain rfl:=Option.some.inj h0
   rw [hn] at h1;cases h1),rfl⟩⟩
theorem heap_set {b o:Nat} {cs:Array Value} {E:TypeId} {fr:Nat×Nat} (h:w.heap[b]? =some (.cells cs E fr)) (u:Value):(w.setCell ⟨b,o,none⟩ u).heap[b]? =some (.cells (cs.setIfInBounds o u) E fr):=by
 simp [World.setCell,Array.getElem?_modify,h]
theorem mF {b o:Nat} {cs:Array Value} {E:TypeId} (h:w.heap[b]? =some (.cells cs E (0,0))):w.frozen? ⟨b,o,none⟩=false:=by
 simp [World.frozen?,h]
theorem jh {b:Nat} {ow:Nm×Option Nat} (hb:ω b=some ow) (p:Addr) (hp:p.block=b) (u:Value):Same ω w ω (w.setCell p u) (fun o=>o≠some ow):=
 ⟨by simp [World.setCell],fun b' _ hl=>⟨Below.heap_setCell w p u b' (by
  intro e
  rw [hp] at e;subst e
  exact hl hb),rfl⟩⟩
theorem cI.J9 {own:Bool} {n:Nm} {d:eQ} {j:Nat} {u:Value} {w':World} {p:Option (Nm×Option Nat)→Prop} (hs:Same ω w ω w' p) (hp:p none) (hp':∀i,p (some (n,some i))) (h:cI η ω w own n d j u):cI η ω w' own n d j u:=by
 cases d with
 | flat l=>exact h
 | bR vs=>exact h
 | rows E vss holes=>exact ⟨h.1,fun hj vs hvs=>have ⟨h1,h2,h3⟩:=h.2 hj vs hvs;⟨h1,h2,h3.same hs hp (hp' j) fun _ _ h=>h⟩⟩
 | mix cs=>exact ⟨h.1,fun c hc=>(h.2 c hc).move rfl fun _ _ _ _ _ h3=>h3.same hs hp (hp' j) fun _ _ h=>h⟩
theorem dY.JQ (hs:dY w0 ω0 nt S η ω a w) {n:Nm} {hd:Hd} {c':Ch} {b:Nat} {ow:Option Nat} (hn:η.h n=some hd) (hb:ω b=some (n,ow)) (p:Addr) (hp:p.block=b) (u:Value) (hc:eA η ω (w.setCell p u) n hd c'):
  dY w0 ω0 nt (S.set n c') η ω a (w.setCell p u):=hs.write hn (vz hb (by simp [fG]) p hp u) hc
theorem dY.y7 (hs:dY w0 ω0 nt S η ω a w) {n:Nm} {c:Ch} {d':eQ} {i:Nat} {p v:Value} {T:TypeId} (hp:c6 η (.ptr n i) p) (hc:S.ch n=some c) (hown:c.own=true) (hi:i < c.d.len) (hT:jd P T 1=true) (h1:v.oneCell'=true)
  (hl:d'.len=c.d.len) (hd:∀w' j u,j≠i→cI η ω w' true n c.d j u→cI η ω w' true n d' j u) (hv:∀w',cI η ω w' true n d' i v):
  ∃w',(Instr.storeAt T p v).run P w= .ok () w'∧dY w0 ω0 nt (S.set n { c with d:=d' }) η ω a w':=by
 obtain ⟨h,e1,e2,e3⟩:=hs.chunk hc
 obtain ⟨b,o,g1,rfl⟩:=hp.2 h e1
 rw [hown] at e3
 rcases e3 with ⟨_,_,h0⟩ | ⟨b',o',cs,f1,f2,f3,f4,f5,f6,f7⟩
 ·omega
 rw [g1] at f1;injection f1 with f1;injection f1 with f1 f1';subst f1 f1'
 obtain ⟨u,hu,_⟩:=f7 i hi
 have hcell:w.cell? ⟨b,o + i,none⟩=some u:=by rw [cell_of_row w b (o + i) cs c.E (0,0) f3];exact hu
 have hsz:o + i < cs.size:=by
  rcases Nat.lt_or_ge (o + i) cs.size with hlt | hge
  ·exact hlt
  ·rw [Array.getElem?_eq_none hge] at hu;cases hu
 refine ⟨_,lu hT hcell (mF f3) h1,hs.JQ e1 f2 _ rfl v ⟨e2, ?_⟩⟩
 show lN c.own ω _ (n,none) h c.E d'.len (cI η ω _ c.own n d')
 rw [hown]
 refine .inr ⟨b,o,_,g1,f2,heap_set f3 v,by simpa using f4,by rw [hl];exact f5,f6,fun j hj=> ?_⟩
 rw [hl] at hj
 obtain ⟨u',hu',hk⟩:=f7 j hj
 by_cases e:j=i
 ·subst e
  exact ⟨v,by simp [hsz],hv _⟩
 ·refine ⟨u',by rw [Array.getElem?_setIfInBounds_ne ae];exact hu',hd _ j u' e (hk.J9 (jh f2 _ rfl v) (by simp) (by simp))⟩
theorem fz {T:TypeId} {n:Nm} {i:Nat} {c:Ch} {l:List A1} {b:A1} (hx:S.op x=some (o1 (.ptr n i))) (hy:S.op y=some (o1 b)) (hc:S.ch n=some c) (hown:c.own=true) (hd:c.d= .flat l) (hi':Nat.blt i l.length=true) (hT:jd P T 1=true) (h1:(A2.one b).okB=true):
  cu P nt ⟨none, .store T x y,ty,ps,af,gd⟩ S (S.set n { c with d:= .flat (l.set i b) }):=
 have hi:i < l.length:=by simpa using hi'
 cu.unit rfl fun w0 ω0 η ω a w hs=>by
  have hb:c6 η b (a.eval y):=hs.iE hy
  obtain ⟨w',k1,k2⟩:=hs.y7 (P:=P) (T:=T) (d':= .flat (l.set i b)) (hs.iE hx) hc hown (by rw [hd];exact hi) hT (hb.one fun v hv=>A2.mo h1 v (by rw [hv])) (by rw [hd];simp [eQ.len])
   (fun w' j u hj hk b' hb'=>by rw [hd] at hk;rw [List.getElem?_set_ne (fun e=>hj e.symm)] at hb';exact hk b' hb')
   (fun w' b' hb'=>by simp [List.getElem?_set_self hi] at hb';subst hb';exact hb)
  exact ⟨w',by simp [execOp,k1],_,_,k2⟩
theorem sQ {T:TypeId} {n:Nm} {i:Nat} {c:Ch} {vs:List Value} {v:Value} (hx:S.op x=some (o1 (.ptr n i))) (hy:S.op y=some (vv v)) (hc:S.ch n=some c) (hown:c.own=true) (hd:c.d= .bR vs) (hi:i < vs.length) (hT:jd P T 1=true) (h1:v.oneCell'=true):
  cu P nt ⟨none, .store T x y,ty,ps,af,gd⟩ S (S.set n { c with d:= .bR (vs.set i v) }):=
 cu.unit rfl fun w0 ω0 η ω a w hs=>by
  have hb:a.eval y=v:=hs.iE hy
  obtain ⟨w',k1,k2⟩:=hs.y7 (P:=P) (T:=T) (d':= .bR (vs.set i v)) (v:=v) (hs.iE hx) hc hown (by rw [hd];exact hi) hT h1 (by rw [hd];simp [eQ.len])
   (fun w' j u hj hk=>by rw [hd] at hk;show (vs.set i v)[j]? =some u;rw [List.getElem?_set_ne (fun e=>hj e.symm)];exact hk)
   (fun w'=>by show (vs.set i v)[i]? =some v;rw [List.getElem?_set_self hi])
  exact ⟨w',by simp [execOp,hb,k1],_,_,k2⟩
theorem At {T:TypeId} {n:Nm} {i j:Nat} {c:Ch} {E:TypeId} {vss:List (List Value)} {holes:List Nat} {vs:List Value} {v:Value} (hx:S.op x=some (o1 (.eptr n i j))) (hy:S.op y=some (vv v)) (hc:S.ch n=some c) (hown:c.own=true)
  (hd:c.d= .rows E vss holes) (hh:i ∉ holes) (hi:vss[i]? =some vs) (hj:j < vs.length) (hT:jd P T 1=true) (h1:v.oneCell'=true):
  cu P nt ⟨none, .store T x y,ty,ps,af,gd⟩ S (S.set n { c with d:= .rows E (vss.set i (vs.set j v)) holes }):=
 cu.unit rfl fun w0 ω0 η ω a w hs=>by
  have hb:a.eval y=v:=hs.iE hy
  have hp:c6 η (.eptr n i j) (a.eval x):=hs.iE hx
  have hil:i < vss.length:=(List.getElem?_eq_some_iff.1 hi).1
  obtain ⟨h,e1,e2,e3⟩:=hs.chunk hc
  obtain ⟨bb,o,g1,g2⟩:=hp.2 h e1
  rw [hown,hd] at e3
  rcases e3 with ⟨_,_,h0⟩ | ⟨b',o',cs,f1,f2,f3,f4,f5,f6,f7⟩
  ·have h0:vss.length=0:=h0;omega
  obtain ⟨u,hu,hk⟩:=f7 i hil
  obtain ⟨rfl,k2,k3⟩:=hk.2 hh vs hi
  rcases k3 with ⟨q1,_⟩ | ⟨b2,o2,cs2,q1,q2,q3,q4,q5,q6,q7⟩
  ·rw [g1] at q1;cases q1
  rw [g1] at q1;injection q1 with q1;injection q1 with q1 q1';subst q1 q1'
  obtain ⟨u',hu',_⟩:=q7 j hj
  have hcell:w.cell? ⟨bb,o + j,none⟩=some u':=by rw [cell_of_row w bb (o + j) cs2 E (0,0) q3];exact hu'
  have hsz:o + j < cs2.size:=by
   rcases Nat.lt_or_ge (o + j) cs2.size with hlt | hge
   ·exact hlt
   ·rw [Array.getElem?_eq_none hge] at hu';cases hu'
  have hsame:=jh (w:=w) q2 ⟨bb,o + j,none⟩ rfl v
  refine ⟨w.setCell ⟨bb,o + j,none⟩ v,by simp [execOp,hb,g2,lu hT hcell (mF q3) h1],η,ω,hs.JQ e1 q2 _ rfl v ⟨e2, ?_⟩⟩
  show lN c.own ω _ (n,none) h c.E (vss.set i (vs.set j v)).length (cI η ω _ c.own n (.rows E (vss.set i (vs.set j v)) holes))
  rw [hown]
  have hbb:b'≠bb:=fun e=>by subst e;rw [f2] at q2;cases q2
  refine .inr ⟨b',o',cs,f1,f2,(hsame.2 b' (fm f3) (by rw [f2];simp)).1.trans f3,f4,by rw [List.length_set];exact f5,f6,fun m hm=> ?_⟩
  rw [List.length_set] at hm
  obtain ⟨u2,hu2,hk2⟩:=f7 m hm
  refine ⟨u2,hu2,hk2.1,fun hm' vs' hvs'=> ?_⟩
  by_cases e:i=m
  ·subst e
   rw [List.getElem?_set_self hil] at hvs'
   obtain rfl:=Option.some.inj hvs'
   have hk2':=hk2.2 hm' vs hi
   refine ⟨by rw [List.length_set];exact hk2'.1,k2, .inr ⟨bb,o,_,g1,q2,heap_set q3 v,by simpa using q4,by rw [List.length_set];exact q5,q6,fun jj hjj=> ?_⟩⟩
   rw [List.length_set] at hjj
   obtain ⟨u3,hu3,hk3⟩:=q7 jj hjj
   by_cases e':j=jj
   ·subst e'
    exact ⟨v,by simp [hsz],List.getElem?_set_self hj⟩
   ·exact ⟨u3,by rw [Array.getElem?_setIfInBounds_ne ae];exact hu3,(List.getElem?_set_ne e').trans hk3⟩
  ·rw [List.getElem?_set_ne e] at hvs'
   obtain ⟨r1,r2,r3⟩:=hk2.2 hm' vs' hvs'
   exact ⟨r1,r2,r3.same hsame (by simp) (by simp;exact fun e'=>e e'.symm) fun _ _ h=>h⟩
end
end Go.Proofs.YtekbhbcgoadciaaGreat
namespace Go.Proofs.YtekbhbcgoadciaaGreat
open Go.RowKit
def lk {α:Type} (t:Nat):List (Nat×α)→Option α
 | []=>none
 | (t',a) :: r=>bif Nat.beq t t' then some a else lk t r
def St.of (sl:List (Nat×AV)) (ch:List (Nm×Ch)) (ph:List (Nat×AV):= []):St:= { sl:=fun t=>lk t sl,ch:=fun x=>lk x ch,ph:=fun t=>lk t ph }
section
variable {P:Program} {nt:Nat} {w0:World} {ω0:ml} {S S1 S':St} {Q:Exit→Act→World→Prop}
structure qQ (P:Program) (w0:World) (ω0:ml) (nt:Nat) (ops:Array Oper) (Q:Exit→Act→World→Prop) (S:St) (rest:List Oper):Prop where
 go:∀a w,Sat w0 ω0 nt S a w→wpList P ops Q rest a w
structure fJ (P:Program) (w0:World) (ω0:ml) (nt:Nat) (S:St) (c:Code) (Q:Exit→Act→World→Prop):Prop where
 go:∀a w,Sat w0 ω0 nt S a w→c.wp P Q a w
structure Fin (w0:World) (ω0:ml) (nt:Nat) (S:St) (e:Exit) (Q:Exit→Act→World→Prop):Prop where
 go:∀a w,Sat w0 ω0 nt S a w→Q e a w
structure Wk (S S':St):Prop where
 go:∀w0 ω0 nt a w,Sat w0 ω0 nt S a w→Sat w0 ω0 nt S' a w
variable {ops:Array Oper} {rest:List Oper} {o:Oper}
theorem ar (h:Fin w0 ω0 nt S .normal Q):qQ P w0 ω0 nt ops Q S []:=⟨fun a w hs=>h.go a w hs⟩
theorem aa (hg:o.guard=none) (h:cu P nt o S S1) (k:qQ P w0 ω0 nt ops Q S1 rest):qQ P w0 ω0 nt ops Q S (o :: rest):=by
 refine ⟨fun a w hs=> ?_⟩
 refine wpList_plain hg fun K hK=> ?_
 exact Oper.wp_mono (fun a' w' h'=>hK a' w' (k.go a' w' h')) (h.go w0 ω0 a w Q hs)
theorem ui {j d:Nat} {want b:Bool} (hg:o.guard=some (j,want)) (hj:(ops[j]?).bind (·.dst)=some d) (hb:S.sl d=some (vv (.bool b))) (h1:b=want→∃S1,cu P nt o S S1∧qQ P w0 ω0 nt ops Q S1 rest)
  (h2:b≠want→∃t,o.dst=some t∧Nat.blt t nt=true∧qQ P w0 ω0 nt ops Q (S.put t (vv undef)) rest):qQ P w0 ω0 nt ops Q S (o :: rest):=by
 refine ⟨fun a w hs=> ?_⟩
 have hy:yielded ops a.tmps j=some b:=by
  obtain ⟨η,ω,hs⟩:=hs
  obtain ⟨u,k1,k2⟩:=hs.slots d _ hb
  have k2:u= .bool b:=k2
  subst k2
  unfold yielded
  cases hoj:ops[j]? with
  | none=>rw [hoj] at hj;cases hj
  | some oj=>
   rw [hoj] at hj
   simp only [Option.bind_some] at hj
   simp [hj,k1]
 refine wpList_step fun K hK=> ?_
 by_cases e:b=want
 ·rw [if_pos (by simp [Region.wanted,hg,hy,e])]
  obtain ⟨S1,h,k⟩:=h1 e
  exact Oper.wp_mono (fun a' w' h'=>hK a' w' (k.go a' w' h')) (h.go w0 ω0 a w Q hs)
 ·rw [if_neg (by simp [Region.wanted,hg,hy,e])]
  obtain ⟨t,ht,hlt,k⟩:=h2 e
  obtain ⟨η,ω,hs⟩:=hs
  exact hK _ _ (k.go _ _ ⟨η,ω,by rw [ht];exact hs.fU (by simpa using hlt) rfl⟩)
theorem ah {id:Nat} {l:List Oper} (h:qQ P w0 ω0 nt l.toArray Q S l):fJ P w0 ω0 nt S (.region id l.toArray false) Q:=⟨fun a w hs=>wp_region_lit (h.go a w hs)⟩
theorem ak {x y:Code} (h:fJ P w0 ω0 nt S x (Exit.then (y.wp P Q) Q)):fJ P w0 ω0 nt S (.seq x y) Q:=⟨fun a w hs=>wp_seq (h.go a w hs)⟩
theorem an {y:Code} (h:fJ P w0 ω0 nt S y Q):Fin w0 ω0 nt S .normal (Exit.then (y.wp P Q) Q):=⟨fun a w hs=>h.go a w hs⟩
theorem aE (h:Fin w0 ω0 nt S .normal Q):fJ P w0 ω0 nt S .skip Q:=⟨fun a w hs=>wp_skip (h.go a w hs)⟩
theorem a7 {id:Nat} (h:Fin w0 ω0 nt S (.exit id) Q):fJ P w0 ω0 nt S (.exit id) Q:=⟨fun a w hs=>wp_exit (h.go a w hs)⟩
theorem aS (h:Fin w0 ω0 nt S .ret Q):fJ P w0 ω0 nt S .ret Q:=⟨fun a w hs=>wp_ret (h.go a w hs)⟩
theorem aB {id:Nat} {c:Code} (h:fJ P w0 ω0 nt S c (Exit.inBlock id Q)):fJ P w0 ω0 nt S (.block id c) Q:=⟨fun a w hs=>wp_block (h.go a w hs)⟩
theorem aM {id:Nat} (h:Fin w0 ω0 nt S .normal Q):Fin w0 ω0 nt S .normal (Exit.inBlock id Q):=⟨fun a w hs=>h.go a w hs⟩
theorem aT {id:Nat} (h:Fin w0 ω0 nt S .normal Q):Fin w0 ω0 nt S (.exit id) (Exit.inBlock id Q):=⟨fun a w hs=>by simp only [Exit.inBlock,if_true];exact h.go a w hs⟩
theorem cQ {id id':Nat} (hn:Nat.beq id' id=false) (h:Fin w0 ω0 nt S (.exit id') Q):Fin w0 ω0 nt S (.exit id') (Exit.inBlock id Q):=by
 refine ⟨fun a w hs=> ?_⟩
 have hne:id'≠id:=fun e=>by subst e;simp at hn
 simp only [Exit.inBlock,if_neg hne];exact h.go a w hs
theorem aA {id:Nat} {K:Act→World→Prop} (h:Fin w0 ω0 nt S (.exit id) Q):Fin w0 ω0 nt S (.exit id) (Exit.then K Q):=⟨fun a w hs=>h.go a w hs⟩
theorem aO {K:Act→World→Prop} (h:Fin w0 ω0 nt S .ret Q):Fin w0 ω0 nt S .ret (Exit.then K Q):=⟨fun a w hs=>h.go a w hs⟩
theorem bt {id:Nat} (h:Fin w0 ω0 nt S .ret Q):Fin w0 ω0 nt S .ret (Exit.inBlock id Q):=⟨fun a w hs=>h.go a w hs⟩
theorem ax {c:Operand} {x y:Code} {b:Bool} (hc:S.op c=some (vv (.bool b))) (ht:b=true→fJ P w0 ω0 nt S x Q) (hf:b=false→fJ P w0 ω0 nt S y Q):fJ P w0 ω0 nt S (.cond c x y) Q:=
 ⟨fun a w hs=>wp_cond_split (t:=b) (by obtain ⟨η,ω,hs⟩:=hs;exact hs.gQ hc) (fun e=>(ht e).go a w hs) (fun e=>(hf e).go a w hs)⟩
theorem bK {c:Operand} {x y:Code} {p:Prop} [Decidable p] (hc:S.op c=some (vv (.bool (decide p)))) (ht:p→fJ P w0 ω0 nt S x Q) (hf:¬p→fJ P w0 ω0 nt S y Q):fJ P w0 ω0 nt S (.cond c x y) Q:=
 ax hc (fun e=>ht (of_decide_eq_true e)) (fun e=>hf (of_decide_eq_false e))
theorem qY {c:Code} (h:Wk S S') (k:fJ P w0 ω0 nt S' c Q):fJ P w0 ω0 nt S c Q:=⟨fun a w hs=>k.go a w (h.go _ _ _ a w hs)⟩
theorem Wk.trans {S2:St} (h:Wk S S1) (k:Wk S1 S2):Wk S S2:=⟨fun _ _ _ _ _ x=>k.go _ _ _ _ _ (h.go _ _ _ _ _ x)⟩
theorem least {p:Nat→Prop} (h:∃n,p n):∃n,p n∧∀m,p m→n≤m:=by
 obtain ⟨n,hn⟩:=h
 induction n using Nat.strongRecOn with
 | _ n ih=>
  by_cases h':∃m,m < n∧p m
  ·obtain ⟨m,hm,hp⟩:=h'
   exact ih m hm hp
  ·exact ⟨n,hn,fun m hm=>Nat.le_of_not_lt fun hlt=>h' ⟨m,hlt,hm⟩⟩
theorem aV (h:Wk S1 S'):Fin w0 ω0 nt S1 .normal (fun e a w=>e= .normal∧Sat w0 ω0 nt S' a w):=⟨fun a w hs=>⟨rfl,h.go _ _ _ a w hs⟩⟩
def yz {ι:Type} (w0:World) (ω0:ml) (nt:Nat) (I:ι→St) (p:ι→Prop) (μ:ι→Nat) (i:ι) (a:Act) (w:World):Prop:=∃j,p j∧μ j < μ i∧Sat w0 ω0 nt (I j) a w
open Classical in
theorem bz {ι:Type} (I:ι→St) (p:ι→Prop) (μ:ι→Nat) (i0:ι) {c:Code} (hp:p i0) (h0:Wk S (I i0)) (hr:∀i,p i→fJ P w0 ω0 nt (I i) c (Exit.then (yz w0 ω0 nt I p μ i) Q)):fJ P w0 ω0 nt S (.loop c) Q:=by
 refine ⟨fun a w hs=> ?_⟩
 have ex:∀a w,(∃i,p i∧Sat w0 ω0 nt (I i) a w)→∃n i,(p i∧Sat w0 ω0 nt (I i) a w)∧μ i=n:=fun a w ⟨i,hi⟩=>⟨μ i,i,hi,rfl⟩
 refine wp_loop (fun a w=>∃i,p i∧Sat w0 ω0 nt (I i) a w) (fun a w=>if h:∃i,p i∧Sat w0 ω0 nt (I i) a w then Classical.choose (least (ex a w h)) else 0) ⟨i0,hp,h0.go _ _ _ a w hs⟩ fun a w hI=> ?_
 obtain ⟨⟨i,hi,hm⟩,_⟩:=Classical.choose_spec (least (ex a w hI))
 refine Code.wp_mono (fun e a' w' hq=> ?_) ((hr i hi.1).go a w hi.2)
 cases e with
 | normal=>
  obtain ⟨j,hpj,hj,hsj⟩:=hq
  refine ⟨⟨j,hpj,hsj⟩, ?_⟩
  simp only [dif_pos hI,dif_pos (⟨j,hpj,hsj⟩:∃i,p i∧Sat w0 ω0 nt (I i) a' w')]
  refine Nat.lt_of_le_of_lt ((Classical.choose_spec (least (ex a' w' ⟨j,hpj,hsj⟩))).2 _ ⟨j,⟨hpj,hsj⟩,rfl⟩) ?_
  rw [←hm];exact hj
 | _=>exact hq
theorem aW {ι:Type} {I:ι→St} {p:ι→Prop} {μ:ι→Nat} {i:ι} (j:ι) (hp:p j) (hm:μ j < μ i) (h:Wk S (I j)):Fin w0 ω0 nt S .normal (Exit.then (yz w0 ω0 nt I p μ i) Q):=
 ⟨fun a w hs=>⟨j,hp,hm,h.go _ _ _ a w hs⟩⟩
def DO (S:St):List (Nat×AV)→Prop
 | []=>True
 | (t,av) :: r=>S.sl t=some av∧DO S r
def qx (S:St):List (Nm×Ch)→Prop
 | []=>True
 | (x,c) :: r=>S.ch x=some c∧qx S r
theorem yf:∀ {l:List (Nat×AV)} {t:Nat} {av:AV},DO S l→lk t l=some av→S.sl t=some av
 | [],_,_,_,h=>by cases h
 | (t',av') :: r,t,av,h,hl=>by
  unfold lk at hl
  cases hb:Nat.beq t t' with
  | true=>rw [hb] at hl;simp at hl;subst hl;rw [beq_true hb];exact h.1
  | false=>rw [hb] at hl;exact yf h.2 hl
def qt (S:St):List (Nat×AV)→Prop
 | []=>True
 | (t,av) :: r=>S.ph t=some av∧qt S r
theorem sS:∀ {l:List (Nat×AV)} {t:Nat} {av:AV},qt S l→lk t l=some av→S.ph t=some av
 | [],_,_,_,h=>by cases h
 | (t',av') :: r,t,av,h,hl=>by
  unfold lk at hl
  cases hb:Nat.beq t t' with
  | true=>rw [hb] at hl;simp at hl;subst hl;rw [beq_true hb];exact h.1
  | false=>rw [hb] at hl;exact sS h.2 hl
theorem rD:∀ {l:List (Nm×Ch)} {t:Nat} {av:Ch},qx S l→lk t l=some av→S.ch t=some av
 | [],_,_,_,h=>by cases h
 | (t',av') :: r,t,av,h,hl=>by
  unfold lk at hl
  cases hb:Nat.beq t t' with
  | true=>rw [hb] at hl;simp at hl;subst hl;rw [beq_true hb];exact h.1
  | false=>rw [hb] at hl;exact rD h.2 hl
open Classical in
theorem Wk.less (hs:∀t av,S'.sl t=some av→S.sl t=some av) (hc:∀x c,S'.ch x=some c→S.ch x=some c) (hp:∀t av,S'.ph t=some av→S.ph t=some av):Wk S S':=by
 refine ⟨fun w0 ω0 nt a w ⟨η,ω,h⟩=> ?_⟩
 have key:∀x,(if S'.ch x=none then none else η.h x)=none∨((if S'.ch x=none then none else η.h x)=η.h x∧∀i,η.r x i=η.r x i):=fun x=>by
  by_cases e:S'.ch x=none
  ·exact .inl (if_pos e)
  ·exact .inr ⟨if_neg e,fun _=>rfl⟩
 refine ⟨{ η with h:=fun x=>if S'.ch x=none then none else η.h x },ω,⟨h.dfr,h.tsz,fun t av ht=> ?_,fun t av ht=> ?_,⟨fun x c hx=> ?_,fun x hx=>if_pos hx⟩,h.fr⟩⟩
 ·obtain ⟨u,h1,h2⟩:=h.slots t av (hs t av ht)
  exact ⟨u,h1,h2.mono fun y _=>key y⟩
 ·obtain ⟨u,h1,h2⟩:=h.phs t av (hp t av ht)
  exact ⟨u,h1,h2.mono fun y _=>key y⟩
 ·obtain ⟨hd,h1,h2⟩:=h.mem.1 x c (hc x c hx)
  refine ⟨hd,by simp [hx,h1],eA.same (η:=η) (p:=fun _=>True) (Same.refl _ _ _) trivial (fun _=>trivial) (fun _=>rfl) (fun l _ a _ z _=>key z) h2⟩
theorem Wk.of {sl ph:List (Nat×AV)} {ch:List (Nm×Ch)} (hs:DO S sl) (hc:qx S ch) (hp:qt S ph):Wk S (St.of sl ch ph):=Wk.less (fun _ _ h=>yf hs h) (fun _ _ h=>rD hc h) (fun _ _ h=>sS hp h)
end
end Go.Proofs.YtekbhbcgoadciaaGreat
namespace Go.Proofs.YtekbhbcgoadciaaGreat
open Go.RowKit
def nB (η:Env) (avs:List AV) (us:List Value):Prop:=us.length=avs.length∧∀(j:Nat) (av:AV),avs[j]? =some av→∃u,us[j]? =some u∧Den η av u
def Left (w:World) (ω:bY) (us:List Value) (outs:List (Nm×Ch)) (res:AV) (back:List (Nat×AV)) (e:Ending) (w':World):Prop:=
 ∃v η' ω',e= .returned v∧Den η' res v∧Mem η' ω' w' (fun x=>lk x outs)∧Fr ω w ω' w'∧∀t av,lk t back=some av→∃u,us[t]? =some u∧Den η' av u
def FC (P:Program) (f:FuncId) (ins:List (Nm×Ch)) (args:List AV) (outs:List (Nm×Ch)) (res:AV) (back:List (Nat×AV)):Prop:=
 ∀w η ω us,Mem η ω w (fun x=>lk x ins)→nB η args us→Calls P f us.toArray w (Left w ω us outs res back)
def C9:Nat→List AV→List (Nat×AV)
 | _, []=> []
 | k,av :: r=>(k,av) :: C9 (k + 1) r
theorem vS:∀ {k:Nat} {l:List AV} {t:Nat} {av:AV},lk t (C9 k l)=some av→∃j,t=k + j∧l[j]? =some av
 | _, [],_,_,h=>by cases h
 | k,a :: r,t,av,h=>by
  simp only [C9,lk] at h
  cases hb:Nat.beq t k with
  | true=>rw [hb] at h;simp at h;subst h;exact ⟨0,beq_true hb,rfl⟩
  | false=>
   rw [hb] at h
   obtain ⟨j,h1,h2⟩:=vS (k:=k + 1) (l:=r) h
   exact ⟨j + 1,ae,by simpa using h2⟩
section
variable {P:Program} {nt:Nat} {S S':St} {w0 w:World} {ω0:ml} {ω:bY} {η:Env} {a:Act}
theorem bj {f:FuncId} {fn:Func} {c:Code} {ins outs:List (Nm×Ch)} {args:List AV} {res:AV} {back:List (Nat×AV)} (hf:P.funcs[f]? =some fn) (hb:fn.body=some c) (hn:fn.ntmps=nt) (hl:args.length≤nt)
  (h:∀w0 ω0,fJ P w0 ω0 nt (St.of (C9 0 args) ins (C9 0 args)) c (bodyPost P fn (Left w0 ω0.own ω0.ph outs res back))):FC P f ins args outs res back:=by
 intro w η ω us hm hd
 refine calls_of_wp hf hb ((h w ⟨ω,us⟩).go _ _ ⟨η,ω, ?_⟩)
 have hsz:us.toArray.size=us.length:=by simp
 refine { dfr:=rfl,tsz:= ?_,slots:=fun t av ht=> ?_,phs:=fun t av ht=> ?_,mem:=hm,fr:=Fr.refl _ _ }
 ·have:=hd.1
  simp;omega
 ·obtain ⟨j,rfl,hj⟩:=vS ht
  obtain ⟨u,h1,h2⟩:=hd.2 j av hj
  refine ⟨u, ?_,h2⟩
  have hlt:j < us.length:=(List.getElem?_eq_some_iff.1 h1).1
  simp only [Nat.zero_add]
  rw [Array.getElem?_append_left (by simpa using hlt)]
  simpa using h1
 ·obtain ⟨j,rfl,hj⟩:=vS ht
  obtain ⟨u,h1,h2⟩:=hd.2 j av hj
  exact ⟨u,by simpa using h1,h2⟩
def vV (P:Program) (T:TypeId) (k:Nat):Bool:=
 match P.underlying T with
 | some (.struct _) | some (.array _ _)=>jd P T k
 | _=>false
theorem Em {T:TypeId} {k:Nat} (h:vV P T k=true) (w:World):(isAgg T).run P w= .ok true w:=by
 unfold vV at h
 cases hu:P.underlying T with
 | none=>rw [hu] at h;cases h
 | some d=>rw [hu] at h;cases d<;>first | (cases h;done) | simp [isAgg,run_underlying hu]
theorem Cm {T:TypeId} {k:Nat} (h:vV P T k=true):jd P T k=true:=by
 unfold vV at h
 cases hu:P.underlying T with
 | none=>rw [hu] at h;cases h
 | some d=>rw [hu] at h;cases d<;>first | (cases h;done) | exact h
theorem qF {T:TypeId} {k:Nat} (h:vV P T k=true) {b o:Nat} {us:List Value} (hl:us.length=k) (hc:∀j u,us[j]? =some u→w.cell? ⟨b,o + j,none⟩=some u):(loadVar T ⟨b,o,none⟩).run P w= .ok (.agg us.toArray) w:=by
 have hr:=run_loadCells_list (P:=P) w ⟨b,o,none⟩ us fun j u hu=>by rw [Addr.add_lit];exact hc j u hu
 rw [hl] at hr
 simp [loadVar,Em h,pK (Cm h),hr]
theorem dY.Bn (hs:dY w0 ω0 nt S η ω a w) {n:Nm} {i k:Nat} {c:Ch} {l:List A1} {T:TypeId} {p:Value} (hp:c6 η (.ptr n i) p) (hc:S.ch n=some c) (hd:c.d= .flat l) (hk:i + k≤l.length) (hk0:0 < k) (hT:vV P T k=true):
  ∃ad u,p= .pointer (some ad)∧(loadVar T ad).run P w= .ok u w∧gj η (.agg ((l.drop i).take k)) u:=by
 obtain ⟨h,e1,e2,e3⟩:=hs.chunk hc
 obtain ⟨b,o,g1,rfl⟩:=hp.2 h e1
 rw [hd] at e3
 have key:∀j,j < k→∃u,w.cell? ⟨b,o + i + j,none⟩=some u∧∀b1,l[i + j]? =some b1→c6 η b1 u:=fun j hj=>by
  obtain ⟨b',o',u,f1,f2,f3⟩:=e3.get (j:=i + j) (by show i + j < l.length;omega)
  rw [g1] at f1;injection f1 with f1;injection f1 with f1 f1';subst f1 f1'
  exact ⟨u,by rw [Nat.add_assoc];exact f2,f3⟩
 refine ⟨_, .agg ((List.range k).map fun j=>(w.cell? ⟨b,o + i + j,none⟩).getD undef).toArray,rfl,qF hT (by simp) fun j u hu=> ?_,⟨_,rfl,by simp;omega,fun j b1 hb1=> ?_⟩⟩
 ·rw [List.getElem?_map,Option.map_eq_some_iff] at hu
  obtain ⟨j',hj',rfl⟩:=hu
  have hjk:j < k:=by have:=(List.getElem?_eq_some_iff.1 hj').1;simpa using this
  rw [List.getElem?_range hjk] at hj'
  obtain rfl:=Option.some.inj hj'
  obtain ⟨u,hu,_⟩:=key j hjk
  rw [hu];rfl
 ·have hjk:j < k:=by have:=(List.getElem?_eq_some_iff.1 hb1).1;simp at this;omega
  rw [List.getElem?_take,if_pos hjk,List.getElem?_drop] at hb1
  obtain ⟨u,hu,hdu⟩:=key j hjk
  exact ⟨u,by simp [hjk,hu],hdu b1 hb1⟩
def jV (tmps:Array Value):ResultVar→Sem Value
 | .tmp t=>pure (tmps.getD t undef)
 | .cell b t=>do loadVar t (←asAddr (tmps.getD b undef))
inductive tB (P:Program) (S:St):ResultVar→A2→Prop where
 | tmp {t:Nat} {b:A2} (h:S.sl t=some (.s b)):tB P S (.tmp t) b
 | cell {t:Nat} {T:TypeId} {n:Nm} {k:Nat} {c:Ch} {l:List A1} (h:S.sl t=some (o1 (.ptr n 0))) (hc:S.ch n=some c) (hd:c.d= .flat l) (hk:l.length=k) (hk0:Nat.blt 0 k=true) (hT:vV P T k=true):tB P S (.cell t T) (.agg l)
 | one {t:Nat} {T:TypeId} {n:Nm} {c:Ch} {b:A1} (h:S.sl t=some (o1 (.ptr n 0))) (hc:S.ch n=some c) (hb:c.d.at_ n 0=some b) (hT:qe P T=true):tB P S (.cell t T) (.one b)
theorem dY.res (hs:dY w0 ω0 nt S η ω a w) {r:ResultVar} {b:A2} (h:tB P S r b):∃u,(jV a.tmps r).run P w= .ok u w∧gj η b u:=by
 cases h with
 | tmp h=>
  obtain ⟨u,h1,h2⟩:=hs.slots _ _ h
  exact ⟨u,by simp [jV,h1],h2⟩
 | cell h hc hd hk hk0 hT=>
  obtain ⟨p,h1,h2⟩:=hs.slots _ _ h
  obtain ⟨ad,u,rfl,h4,h5⟩:=hs.Bn (P:=P) h2 hc hd ae (by simpa using hk0) hT
  refine ⟨u,by simp [jV,h1,asAddr,h4], ?_⟩
  rw [List.drop_zero,List.take_of_length_le ae] at h5;exact h5
 | one h hc hb hT=>
  obtain ⟨p,h1,h2⟩:=hs.slots _ _ h
  obtain ⟨hd,e1,e2,e3⟩:=hs.chunk hc
  obtain ⟨bb,o,g1,rfl⟩:=(show c6 η (.ptr _ 0) p from h2).2 hd e1
  obtain ⟨b',o',u,f1,f2,f3⟩:=e3.get (eQ.Ez hb)
  rw [g1] at f1;injection f1 with f1;injection f1 with f1 f1';subst f1 f1'
  simp only [Nat.add_zero] at f2 h1
  exact ⟨u,by simp [jV,h1,asAddr,loadVar,xG hT,f2],Ag f3 hb⟩
theorem ll (fn:Func) (tmps:Array Value):results fn tmps=(do let vs ←fn.results.mapM (jV tmps);pure (if h:vs.size=1 then vs[0] else .tuple vs)):=by
 unfold results
 congr 1
theorem wD {fn:Func} {tmps:Array Value} (h:fn.results= #[]):(results fn tmps).run P w= .ok (.tuple #[]) w:=by
 rw [ll,h];simp
theorem vI {fn:Func} {tmps:Array Value} {r:ResultVar} {v:Value} (h:fn.results= #[r]) (h1:(jV tmps r).run P w= .ok v w):(results fn tmps).run P w= .ok v w:=by
 rw [ll,h];simp [h1]
theorem wy {fn:Func} {tmps:Array Value} {r r':ResultVar} {v v':Value} (h:fn.results= #[r,r']) (h1:(jV tmps r).run P w= .ok v w) (h2:(jV tmps r').run P w= .ok v' w):(results fn tmps).run P w= .ok (.tuple #[v,v']) w:=by
 rw [ll,h];simp [h1,h2]
theorem dY.left (hs:dY w0 ω0 nt S η ω a w) {outs:List (Nm×Ch)} {res:AV} {back:List (Nat×AV)} {v:Value} (hc:qx S outs) (hb:qt S back) (hv:Den η res v):Left w0 ω0.own ω0.ph outs res back (.returned v) w:=by
 classical
 have key:∀x,(if lk x outs=none then none else η.h x)=none∨((if lk x outs=none then none else η.h x)=η.h x∧∀i,η.r x i=η.r x i):=fun x=>by
  by_cases e:lk x outs=none
  ·exact .inl (if_pos e)
  ·exact .inr ⟨if_neg e,fun _=>rfl⟩
 refine ⟨v, { η with h:=fun x=>if lk x outs=none then none else η.h x },ω,rfl,hv.mono fun y _=>key y,⟨fun x c hx=> ?_,fun x hx=>if_pos hx⟩,hs.fr,fun t av ht=> ?_⟩
 ·obtain ⟨hd,h1,h2⟩:=hs.mem.1 x c (rD hc hx)
  refine ⟨hd,by simp [hx,h1],eA.same (η:=η) (p:=fun _=>True) (Same.refl _ _ _) trivial (fun _=>trivial) (fun _=>rfl) (fun l _ a _ z _=>key z) h2⟩
 ·obtain ⟨u,h1,h2⟩:=hs.phs t av (sS hb ht)
  exact ⟨u,h1,h2.mono fun y _=>key y⟩
theorem iF {fn:Func} {e:Exit} {outs:List (Nm×Ch)} {back:List (Nat×AV)} (he:e= .ret∨e= .normal) (hf:fn.results= #[]) (hc:qx S outs) (hb:qt S back):
  Fin w0 ω0 nt S e (bodyPost P fn (Left w0 ω0.own ω0.ph outs (.tup []) back)):=by
 refine ⟨fun a w ⟨η,ω,hs⟩=> ?_⟩
 have:a.defers= []∧∃v,(results fn a.tmps).run P w= .ok v w∧Left w0 ω0.own ω0.ph outs (.tup []) back (.returned v) w:=⟨hs.dfr,_,wD hf,hs.left hc hb ⟨#[],rfl,rfl,fun j b hj=>by simp at hj⟩⟩
 rcases he with rfl | rfl<;>exact this
theorem bu {fn:Func} {e:Exit} {r:ResultVar} {b:A2} {outs:List (Nm×Ch)} {back:List (Nat×AV)} (he:e= .ret∨e= .normal) (hf:fn.results= #[r]) (hr:tB P S r b) (hc:qx S outs) (hb:qt S back):
  Fin w0 ω0 nt S e (bodyPost P fn (Left w0 ω0.own ω0.ph outs (.s b) back)):=by
 refine ⟨fun a w ⟨η,ω,hs⟩=> ?_⟩
 obtain ⟨u,h1,h2⟩:=hs.res hr
 have:a.defers= []∧∃v,(results fn a.tmps).run P w= .ok v w∧Left w0 ω0.own ω0.ph outs (.s b) back (.returned v) w:=⟨hs.dfr,u,vI hf h1,hs.left hc hb h2⟩
 rcases he with rfl | rfl<;>exact this
theorem bN {fn:Func} {e:Exit} {r r':ResultVar} {b b':A2} {outs:List (Nm×Ch)} {back:List (Nat×AV)} (he:e= .ret∨e= .normal) (hf:fn.results= #[r,r']) (hr:tB P S r b) (hr':tB P S r' b') (hc:qx S outs) (hb:qt S back):
  Fin w0 ω0 nt S e (bodyPost P fn (Left w0 ω0.own ω0.ph outs (.tup [b,b']) back)):=by
 refine ⟨fun a w ⟨η,ω,hs⟩=> ?_⟩
 obtain ⟨u,h1,h2⟩:=hs.res hr
 obtain ⟨u',h1',h2'⟩:=hs.res hr'
 have hd:Den η (.tup [b,b']) (.tuple #[u,u']):=⟨_,rfl,rfl,fun j c hj=>by
  match j,hj with
  | 0,hj=>simp at hj;subst hj;exact ⟨u,by simp,h2⟩
  | 1,hj=>simp at hj;subst hj;exact ⟨u',by simp,h2'⟩⟩
 have:a.defers= []∧∃v,(results fn a.tmps).run P w= .ok v w∧Left w0 ω0.own ω0.ph outs (.tup [b,b']) back (.returned v) w:=⟨hs.dfr,_,wy hf h1 h1',hs.left hc hb hd⟩
 rcases he with rfl | rfl<;>exact this
end
end Go.Proofs.YtekbhbcgoadciaaGreat
namespace Go.Proofs.YtekbhbcgoadciaaGreat
open Go.RowKit
def A1.bad (o k:Nm→Bool):A1→Bool
 | .val _ | .any=>false
 | .sl x _ _ | .esl x _ _ _ | .eptr x _ _=>o x
 | .ptr x _=>o x && !k x
 | .clo _ xs=>xs.any fun p=>o p.1 && !k p.1
def A2.bad (o k:Nm→Bool):A2→Bool
 | .one a=>a.bad o k
 | .agg l=>l.any (A1.bad o k)
def AV.bad (o k:Nm→Bool):AV→Bool
 | .s a=>a.bad o k
 | .tup l=>l.any (A2.bad o k)
def eQ.clean (o k:Nm→Bool):eQ→eQ
 | .flat l=> .flat (l.map fun a=>bif a.bad o k then .any else a)
 | d=>d
def Ch.clean (o k:Nm→Bool) (c:Ch):Ch:= { c with d:=c.d.clean o k }
def A1.names:A1→List Nm
 | .sl y _ _ | .ptr y _ | .esl y _ _ _ | .eptr y _ _=> [y]
 | .clo _ xs=>xs.map (·.1)
 | .val _ | .any=> []
def A2.names:A2→List Nm
 | .one a=>a.names
 | .agg l=>l.flatMap A1.names
def AV.names:AV→List Nm
 | .s a=>a.names
 | .tup l=>l.flatMap A2.names
def Ch.names (c:Ch):List Nm:=match c.d with
 | .flat l=>l.flatMap A1.names
 | _=> []
theorem A1.fc {a:A1} {x:Nm} (h:a.has x=true):x∈a.names:=by
 cases a with
 | val v=>cases h
 | any=>cases h
 | sl y _ _=>rw [beq_true (h:Nat.beq x y=true)];simp [A1.names]
 | ptr y _=>rw [beq_true (h:Nat.beq x y=true)];simp [A1.names]
 | esl y _ _ _=>rw [beq_true (h:Nat.beq x y=true)];simp [A1.names]
 | eptr y _ _=>rw [beq_true (h:Nat.beq x y=true)];simp [A1.names]
 | clo f xs=>
  simp only [A1.has,List.any_eq_true] at h
  obtain ⟨p,hp,hb⟩:=h
  exact List.mem_map.2 ⟨p,hp,(beq_true hb).symm⟩
theorem A2.fc {a:A2} {x:Nm} (h:a.has x=true):x∈a.names:=by
 cases a with
 | one a=>exact A1.fc h
 | agg l=>
  simp only [A2.has,List.any_eq_true] at h
  obtain ⟨p,hp,hb⟩:=h
  exact List.mem_flatMap.2 ⟨p,hp,A1.fc hb⟩
theorem AV.fc {a:AV} {x:Nm} (h:a.has x=true):x∈a.names:=by
 cases a with
 | s a=>exact A2.fc h
 | tup l=>
  simp only [AV.has,List.any_eq_true] at h
  obtain ⟨p,hp,hb⟩:=h
  exact List.mem_flatMap.2 ⟨p,hp,A2.fc hb⟩
def CH (η η':Env) (o k:Nm→Bool):Prop:=
 ∀y,η'.h y=none∨(η'.h y=η.h y∧∀i,η'.r y i=η.r y i)∨(o y=true∧(k y=true→∀h',η'.h y=some h'→∃h,η.h y=some h∧h'.ao=h.ao))
theorem xR.ao {h h':Hd} {off:Nat} {u:Value} (e:h'.ao=h.ao) (p:xR h off u):xR h' off u:=by
 obtain ⟨b,o,h1,h2⟩:=p
 exact ⟨b,o,e.trans h1,h2⟩
theorem c6.oD {η η':Env} {o k:Nm→Bool} {a:A1} {u:Value} (ht:CH η η' o k) (hb:a.bad o k=false) (h:c6 η a u):c6 η' a u:=by
 cases a with
 | val v=>exact h
 | any=>exact h
 | sl x off n=>
  refine ⟨h.1,fun hd he=> ?_⟩
  rcases ht x with e | ⟨e,_⟩ | ⟨e,_⟩
  ·rw [e] at he;cases he
  ·exact h.2 hd (e ▸ he)
  ·exact absurd e (by rw [show o x=false from hb];simp)
 | ptr x off=>
  refine ⟨h.1,fun hd he=> ?_⟩
  rcases ht x with e | ⟨e,_⟩ | ⟨e,e2⟩
  ·rw [e] at he;cases he
  ·exact h.2 hd (e ▸ he)
  ·have hk:k x=true:=by
    have hb:(o x && !k x)=false:=hb
    rw [e] at hb;simpa using hb
   obtain ⟨h0,h1,h2⟩:=e2 hk hd he
   exact xR.ao h2 (h.2 h0 h1)
 | esl x i off n=>
  refine ⟨h.1,fun hd he=> ?_⟩
  rcases ht x with e | ⟨e,er⟩ | ⟨e,_⟩
  ·rw [e] at he;cases he
  ·rw [er i];exact h.2 hd (e ▸ he)
  ·exact absurd e (by rw [show o x=false from hb];simp)
 | eptr x i off=>
  refine ⟨h.1,fun hd he=> ?_⟩
  rcases ht x with e | ⟨e,er⟩ | ⟨e,_⟩
  ·rw [e] at he;cases he
  ·rw [er i];exact h.2 hd (e ▸ he)
  ·exact absurd e (by rw [show o x=false from hb];simp)
 | clo f xs=>
  obtain ⟨us,h1,h2,h3⟩:=h
  refine ⟨us,h1,h2,fun j p hp=> ?_⟩
  obtain ⟨q,hq,hq1,hq2⟩:=h3 j p hp
  refine ⟨q,hq,hq1,fun hd he=> ?_⟩
  rcases ht p.1 with e | ⟨e,_⟩ | ⟨e,e2⟩
  ·rw [e] at he;cases he
  ·exact hq2 hd (e ▸ he)
  ·have hb:(xs.any fun p=>o p.1 && !k p.1)=false:=hb
   have hk:k p.1=true:=by
    have:=List.any_eq_false.1 hb p (List.mem_of_getElem? hp)
    rw [e] at this;simpa using this
   obtain ⟨h0,h1,h2⟩:=e2 hk hd he
   exact xR.ao h2 (hq2 h0 h1)
theorem gj.oD {η η':Env} {o k:Nm→Bool} {a:A2} {u:Value} (ht:CH η η' o k) (hb:a.bad o k=false) (h:gj η a u):gj η' a u:=by
 cases a with
 | one a=>exact c6.oD ht hb h
 | agg l=>
  obtain ⟨us,h1,h2,h3⟩:=h
  refine ⟨us,h1,h2,fun j a ha=> ?_⟩
  obtain ⟨u',h4,h5⟩:=h3 j a ha
  exact ⟨u',h4,h5.oD ht (by have:=List.any_eq_false.1 (show l.any (A1.bad o k)=false from hb) a (List.mem_of_getElem? ha);simpa using this)⟩
theorem Den.oD {η η':Env} {o k:Nm→Bool} {a:AV} {u:Value} (ht:CH η η' o k) (hb:a.bad o k=false) (h:Den η a u):Den η' a u:=by
 cases a with
 | s a=>exact gj.oD ht hb h
 | tup l=>
  obtain ⟨us,h1,h2,h3⟩:=h
  refine ⟨us,h1,h2,fun j a ha=> ?_⟩
  obtain ⟨u',h4,h5⟩:=h3 j a ha
  exact ⟨u',h4,h5.oD ht (by have:=List.any_eq_false.1 (show l.any (A2.bad o k)=false from hb) a (List.mem_of_getElem? ha);simpa using this)⟩
theorem eA.oD {η η':Env} {ω ω':bY} {w w':World} {o k:Nm→Bool} {x:Nm} {h:Hd} {c:Ch} {p:Option (Nm×Option Nat)→Prop} (hs:Same ω w ω' w' p) (hp:p none) (hp':∀i,p (some (x,i))) (hr:∀i,η'.r x i=η.r x i)
  (ht:CH η η' o k) (hc:eA η ω w x h c):eA η' ω' w' x h (c.clean o k):=by
 refine ⟨hc.1, ?_⟩
 have hl:(c.clean o k).d.len=c.d.len:=by unfold Ch.clean eQ.clean;cases c.d<;>simp [eQ.len]
 rw [hl]
 refine hc.2.same hs hp (hp' none) fun j u hu=> ?_
 unfold Ch.clean eQ.clean
 cases hd:c.d with
 | flat l=>
  rw [hd] at hu
  intro a ha
  simp only [List.getElem?_map,Option.map_eq_some_iff] at ha
  obtain ⟨b,hb,rfl⟩:=ha
  cases hbad:b.bad o k with
  | true=>
   refine (hu b hb).one fun v hv=> ?_
   subst hv;cases hbad
  | false=>exact (hu b hb).oD ht hbad
 | bR vs=>rw [hd] at hu;exact hu
 | rows E vss holes=>
  rw [hd] at hu
  refine ⟨hu.1,fun hj vs hvs=> ?_⟩
  obtain ⟨h1,h2,h3⟩:=hu.2 hj vs hvs
  rw [hr j]
  exact ⟨h1,h2,h3.same hs hp (hp' (some j)) fun _ _ h=>h⟩
 | mix cs=>rw [hd] at hu;exact ⟨hu.1,fun c hc=>(hu.2 c hc).move (hr j) fun _ _ _ _ _ h3=>h3.same hs hp (hp' (some j)) fun _ _ h=>h⟩
def gM (ins:List (Nm×Ch)) (x:Nm):Bool:=match lk x ins with | some c=>c.own | none=>false
def jz (l:List (Nm×Ch)) (x:Nm):Bool:=(lk x l).isSome
def jf (l:List Nm) (x:Nm):Bool:=l.any (Nat.beq x)
def St.after (S:St) (ins outs:List (Nm×Ch)) (kp:List Nm):St:=
 {sl:=fun t=>(S.sl t).bind fun av=>bif av.bad (jz outs) (jf kp) then none else some av,ph:=fun t=>(S.ph t).bind fun av=>bif av.bad (jz outs) (jf kp) then none else some av,ch:=fun y=>match lk y outs with
   | some c=>some c
   | none=>bif gM ins y then none else (S.ch y).map (Ch.clean (jz outs) (jf kp)) }
theorem jC {o:Option AV} {av:AV} {b:AV→Bool} (h:(o.bind fun av=>bif b av then none else some av)=some av):o=some av∧b av=false:=by
 cases o with
 | none=>cases h
 | some a=>
  simp only [Option.bind_some] at h
  cases hb:b a with
  | true=>rw [hb] at h;cases h
  | false=>rw [hb] at h;simp at h;subst h;exact ⟨rfl,hb⟩
def rN (S:St):List (Nm×Ch)→Prop
 | []=>True
 | (x,c) :: r=>(∃c',S.ch x=some c'∧(c'=c∨c= { c' with own:=false }))∧rN S r
theorem sg {S:St} :∀ {l:List (Nm×Ch)} {t:Nat} {c:Ch},rN S l→lk t l=some c→∃c',S.ch t=some c'∧(c'=c∨c= { c' with own:=false })
 | [],_,_,_,h=>by cases h
 | (t',av') :: r,t,av,h,hl=>by
  unfold lk at hl
  cases hb:Nat.beq t t' with
  | true=>rw [hb] at hl;simp at hl;subst hl;rw [beq_true hb];exact h.1
  | false=>rw [hb] at hl;exact sg h.2 hl
def FY (S:St):List Operand→Option (List AV)
 | []=>some []
 | x :: r=>(S.op x).bind fun a=>(FY S r).map fun l=>a :: l
def Ka:List A1→List A1→Prop
 | [], []=>True
 | a :: r,b :: l=>(a=b∨(b= .any∧(A2.one a).okB=true))∧Ka r l
 | _,_=>False
def AV.to:AV→AV→Prop
 | .s (.agg l), .s (.agg l')=>Ka l l'
 | a,b=>a=b
def wL:List AV→List AV→Prop
 | [], []=>True
 | a :: r,b :: l=>a.to b∧wL r l
 | _,_=>False
theorem DT:∀ {l l':List A1},Ka l l'→l.length=l'.length∧∀(j:Nat) (b:A1),l'[j]? =some b→∃a,l[j]? =some a∧(a=b∨(b= .any∧(A2.one a).okB=true))
 | [], [],_=>⟨rfl,fun j b h=>by simp at h⟩
 | a :: r,b :: l,h=>by
  obtain ⟨h1,h2⟩:=DT h.2
  refine ⟨by simp [h1],fun j c hj=> ?_⟩
  cases j with
  | zero=>simp at hj;subst hj;exact ⟨a,by simp,h.1⟩
  | succ j=>exact h2 j c (by simpa using hj)
 | [],_ :: _,h=>h.elim
 | _ :: _, [],h=>h.elim
theorem Den.to {η:Env} {a b:AV} {u:Value} (h:a.to b) (hd:Den η a u):Den η b u:=by
 match a,b,h,hd with
 | .s (.agg l), .s (.agg l'),h,hd=>
  obtain ⟨h1,h2⟩:=DT h
  obtain ⟨us,rfl,h3,h4⟩:=hd
  refine ⟨us,rfl,h3.trans h1,fun j c hj=> ?_⟩
  obtain ⟨a,ha,hab⟩:=h2 j c hj
  obtain ⟨u',hu',hda⟩:=h4 j a ha
  refine ⟨u',hu', ?_⟩
  rcases hab with rfl | ⟨rfl,ho⟩
  ·exact hda
  ·exact hda.one fun v hv=>A2.mo ho v (by rw [hv])
 | .s (.one _),b,h,hd=>have h:_=b:=h;exact h ▸ hd
 | .tup _,b,h,hd=>have h:_=b:=h;exact h ▸ hd
 | .s (.agg l), .s (.one _),h,hd=>have h:AV.s (.agg l)=_:=h;exact h ▸ hd
 | .s (.agg l), .tup _,h,hd=>have h:AV.s (.agg l)=_:=h;exact h ▸ hd
theorem nB.to {η:Env} :∀ {avs avs':List AV} {us:List Value},wL avs avs'→nB η avs us→nB η avs' us
 | [], [],us,_,hd=>hd
 | a :: r,b :: l,us,h,hd=>by
  cases us with
  | nil=>exact absurd hd.1 (by simp)
  | cons u us=>
   have hd':nB η r us:=⟨by simpa using hd.1,fun j av hj=>by
    obtain ⟨u',h1,h2⟩:=hd.2 (j + 1) av (by simpa using hj)
    exact ⟨u',by simpa using h1,h2⟩⟩
   obtain ⟨h1,h2⟩:=nB.to h.2 hd'
   refine ⟨by simpa using h1,fun j av hj=> ?_⟩
   cases j with
   | zero=>
    simp at hj;subst hj
    obtain ⟨u',h3,h4⟩:=hd.2 0 a (by simp)
    simp at h3;subst h3
    exact ⟨u,by simp,h4.to h.1⟩
   | succ j=>
    obtain ⟨u',h3,h4⟩:=h2 j av (by simpa using hj)
    exact ⟨u',by simpa using h3,h4⟩
 | [],_ :: _,_,h,_=>h.elim
 | _ :: _, [],_,h,_=>h.elim
def Ek (ins:List (Nm×Ch)) (args:List AV) (back:List (Nat×AV)):List (Nat×Nm)→Prop
 | []=>True
 | (j,x) :: r=>jz ins x=true∧args[j]? =some (o1 (.ptr x 0))∧lk j back=some (o1 (.ptr x 0))∧Ek ins args back r
theorem ua {ins:List (Nm×Ch)} {args:List AV} {back:List (Nat×AV)} :∀ {l:List (Nat×Nm)} {x:Nm},Ek ins args back l→jf (l.map (·.2)) x=true→jz ins x=true∧∃j,args[j]? =some (o1 (.ptr x 0))∧lk j back=some (o1 (.ptr x 0))
 | [],_,_,h=>by cases h
 | (j,y) :: r,x,h,hm=>by
  simp only [jf,List.map_cons,List.any_cons,Bool.or_eq_true] at hm
  rcases hm with hm | hm
  ·rw [beq_true hm];exact ⟨h.1,j,h.2.1,h.2.2.1⟩
  ·exact ua h.2.2.2 hm
def uQ (P:Program) (f:FuncId):Bool:=
 match P.funcs[f]? with
 | some fn=>fn.body.isSome && !(fn.name == "runtime.NumGoroutine")
 | none=>false
theorem uI {P:Program} {f:FuncId} (h:uQ P f=true) (args:Array Value) (w:World):(callFunc f args).run P w= .ok (.enter f args) w:=by
 unfold uQ at h
 split at h
 ·rename_i fn hf
  simp only [Bool.and_eq_true,Bool.not_eq_true'] at h
  obtain ⟨h1,h2⟩:=h
  cases hb:fn.body with
  | none=>rw [hb] at h1;cases h1
  | some c=>
   have h3:¬fn.name= "runtime.NumGoroutine" :=fun e=>by rw [e] at h2;simp at h2
   simp [callFunc,hf,h3,hb]
 ·cases h
section
variable {P:Program} {nt:Nat} {S S':St} {w0 w:World} {ω0:ml} {ω:bY} {η:Env} {a:Act}
theorem dY.opsL (hs:dY w0 ω0 nt S η ω a w):∀ {xs:List Operand} {avs:List AV},FY S xs=some avs→nB η avs (xs.map a.eval)
 | [],avs,h=>by obtain rfl:=Option.some.inj h;exact ⟨rfl,fun j av h=>by simp at h⟩
 | x :: r,avs,h=>by
  simp only [FY,Option.bind_eq_some_iff,Option.map_eq_some_iff] at h
  obtain ⟨av,hx,l,hl,rfl⟩:=h
  obtain ⟨h1,h2⟩:=hs.opsL hl
  refine ⟨by simpa using h1,fun j b hj=> ?_⟩
  cases j with
  | zero=>simp at hj;subst hj;exact ⟨a.eval x,by simp,hs.iE hx⟩
  | succ j=>exact h2 j b (by simpa using hj)
theorem lN.view {ω':bY} {own:Bool} {ow:Nm×Option Nat} {h:Hd} {E:TypeId} {len:Nat} {cell cell':Nat→Value→Prop} (hv:lN own ω w ow h E len cell) (hn:∀b,ω b=none→ω' b=none) (ho:∀b,ω b=some ow→ω' b=none) (hc:∀j u,cell j u→cell' j u):lN false ω' w ow h E len cell':=by
 refine ⟨hv.cap,fun j hj=> ?_⟩
 cases own with
 | true=>
  rcases hv with ⟨_,_,h0⟩ | ⟨b,o,cs,h1,h2,h3,h4,h5,h6,h7⟩
  ·omega
  ·obtain ⟨u,hu,hcu⟩:=h7 j hj
   exact ⟨b,o,u,h1,ho b h2,fm h3,by rw [cell_of_row w b (o + j) cs E (0,0) h3];exact hu,hc j u hcu⟩
 | false=>
  obtain ⟨b,o,u,h1,h2,h3,h4,h5⟩:=hv.2 j hj
  exact ⟨b,o,u,h1,hn b h2,h3,h4,hc j u h5⟩
theorem eA.view {ω':bY} {x:Nm} {h:Hd} {c:Ch} (hc:eA η ω w x h c) (hn:∀b,ω b=none→ω' b=none) (ho:∀b i,ω b=some (x,i)→ω' b=none) {η':Env} (hr:∀i,η'.r x i=η.r x i) (hm:∀l,c.d= .flat l→∀a∈l,a.mono η η'):eA η' ω' w x h { c with own:=false } :=by
 refine ⟨hc.1,hc.2.view hn (fun b=>ho b none) fun j u hu=> ?_⟩
 show cI η' ω' w false x c.d j u
 cases hd:c.d with
 | flat l=>rw [hd] at hu;exact fun a ha=>(hu a ha).mono (hm l hd a (List.mem_of_getElem? ha))
 | bR vs=>rw [hd] at hu;exact hu
 | rows E vss holes=>
  rw [hd] at hu
  refine ⟨hu.1,fun hj vs hvs=> ?_⟩
  obtain ⟨h1,h2,h3⟩:=hu.2 hj vs hvs
  rw [hr j]
  exact ⟨h1,h2,h3.view hn (fun b=>ho b (some j)) fun _ _ h=>h⟩
 | mix cs=>rw [hd] at hu;exact ⟨hu.1,fun c hc=>(hu.2 c hc).move (hr j) fun _ _ _ _ _ h3=>h3.view hn (fun b=>ho b (some j)) fun _ _ h=>h⟩
theorem eA.own {ω':bY} {x:Nm} {h:Hd} {c:Ch} (hc:eA η ω w x h c) (hs:Same ω w ω' w (fun o=>o=none∨∃i,o=some (x,i))) {η':Env} (hr:∀i,η'.r x i=η.r x i) (hm:∀l,c.d= .flat l→∀a∈l,a.mono η η'):eA η' ω' w x h c:=
 eA.same hs (.inl rfl) (fun i=> .inr ⟨i,rfl⟩) hr hm hc
theorem dJ.same {ω':bY} {w':World} {ow:Nm×Option Nat} {h:Hd} {E:TypeId} {len:Nat} {cell cell':Nat→Value→Prop} (hs:∀b,b < w.heap.size→ω b=some ow→w'.heap[b]? =w.heap[b]? ∧ω' b=some ow)
  (hc:∀j u,cell j u→cell' j u) (hv:dJ ω w ow h E len cell):dJ ω' w' ow h E len cell':=by
 rcases hv with h0 | ⟨b,o,cs,h1,h2,h3,h4,h5,h6,h7⟩
 ·exact .inl h0
 ·have hb:=hs b (fm h3) h2
  refine .inr ⟨b,o,cs,h1,hb.2,hb.1.trans h3,h4,h5,h6,fun j hj=> ?_⟩
  obtain ⟨u,hu,hcu⟩:=h7 j hj
  exact ⟨u,hu,hc j u hcu⟩
theorem eA.Jy {ω':bY} {w':World} {x:Nm} {h:Hd} {c:Ch} {η':Env} (hown:c.own=true) (hs:∀b i,b < w.heap.size→ω b=some (x,i)→w'.heap[b]? =w.heap[b]? ∧ω' b=some (x,i)) (hr:∀i,η'.r x i=η.r x i)
  (hm:∀l,c.d= .flat l→∀a∈l,a.mono η η') (hc:eA η ω w x h c):eA η' ω' w' x h c:=by
 obtain ⟨h1,h2⟩:=hc
 refine ⟨h1, ?_⟩
 rw [hown] at h2 ⊢
 refine dJ.same (fun b=>hs b none) (fun j u hu=> ?_) h2
 cases hd:c.d with
 | flat l=>rw [hd] at hu;exact fun a ha=>(hu a ha).mono (hm l hd a (List.mem_of_getElem? ha))
 | bR vs=>rw [hd] at hu;exact hu
 | rows E vss holes=>
  rw [hd] at hu
  refine ⟨hu.1,fun hj vs hvs=> ?_⟩
  obtain ⟨h1,h2,h3⟩:=hu.2 hj vs hvs
  rw [hr j]
  exact ⟨h1,h2,dJ.same (fun b=>hs b (some j)) (fun _ _ h=>h) h3⟩
 | mix cs=>rw [hd] at hu;exact ⟨hu.1,fun c hc=>kU.move (own:=true) (own':=true) (hr j) (fun _ _ _ _ _ h3=>dJ.same (fun b=>hs b (some j)) (fun _ _ h=>h) h3) (hu.2 c hc)⟩
theorem lg {α:Type} :∀ {l:List (Nat×α)} {t:Nat} {a:α},lk t l=some a→(t,a)∈l
 | [],_,_,h=>by cases h
 | (t',a') :: r,t,a,h=>by
  unfold lk at h
  cases hb:Nat.beq t t' with
  | true=>rw [hb] at h;simp at h;subst h;rw [beq_true hb];exact List.mem_cons_self
  | false=>rw [hb] at h;exact List.mem_cons_of_mem _ (lg h)
theorem Ch.uK {c:Ch} {l:List A1} {a:A1} {x:Nm} (hd:c.d= .flat l) (ha:a∈l) (hx:a.has x=true):x∈c.names:=by
 unfold Ch.names;rw [hd];exact List.mem_flatMap.2 ⟨a,ha,A1.fc hx⟩
theorem dc {f:FuncId} {xs:Array Operand} {ts:Array TypeId} {dst:Option Nat} {ty:TypeId} {ps:String} {af:Array Edge} {gd:Option (Nat×Bool)} {ins outs:List (Nm×Ch)} {args args':List AV} {res:AV} {back:List (Nat×AV)} (kp:List (Nat×Nm))
  (hfc:FC P f ins args outs res back) (hf:uQ P f=true) (ht:(dst.map fun t=>Nat.blt t nt) != some false) (hx':FY S xs.toList=some args') (hto:wL args' args) (hin:rN S ins) (hkp:Ek ins args back kp)
  (hnr:(res.names.all (jz outs))=true) (hno:(outs.all fun p=>p.2.own && p.2.names.all (jz outs))=true):
  cu P nt ⟨dst, .call { callee:= .value (.func f),args:=xs,argTypes:=ts },ty,ps,af,gd⟩ S ((S.after ins outs (kp.map (·.2))).IV dst res):=by
 classical
 refine ⟨fun w0 ω0 a w Q ⟨η,ω,hs⟩=> ?_⟩
 have hopsL:nB η args (xs.toList.map a.eval):=(hs.opsL hx').to hto
 let η1:Env:= { η with h:=fun x=>if lk x ins=none then none else η.h x }
 let ω1:bY:=fun b=>match ω b with
  | some (x,i)=>if gM ins x=true then some (x,i) else none
  | none=>none
 have hω1n:∀b,ω b=none→ω1 b=none:=fun b h=>by simp only [ω1,h]
 have hω1s:∀b x i,ω b=some (x,i)→gM ins x=true→ω1 b=some (x,i):=fun b x i h h'=>by simp only [ω1,h,if_pos h']
 have hω1f:∀b x i,ω b=some (x,i)→gM ins x=false→ω1 b=none:=fun b x i h h'=>by simp [ω1,h,h']
 have hη1:∀x,η1.h x=none∨(η1.h x=η.h x∧∀i,η1.r x i=η.r x i):=fun x=>by
  by_cases e:lk x ins=none
  ·exact .inl (if_pos e)
  ·exact .inr ⟨if_neg e,fun _=>rfl⟩
 have hmem:Mem η1 ω1 w fun x=>lk x ins:=by
  refine ⟨fun x c hx=> ?_,fun x hx=>if_pos hx⟩
  have hx:lk x ins=some c:=hx
  obtain ⟨c',hc',hcc⟩:=sg hin hx
  obtain ⟨hd,h1,h2⟩:=hs.mem.1 x c' hc'
  refine ⟨hd,by simp only [η1];rw [if_neg (by rw [hx];simp)];exact h1, ?_⟩
  by_cases hown:c.own=true
  ·have hcc':c'=c:=by
    rcases hcc with h | h
    ·exact h
    ·rw [h] at hown;cases hown
   subst hcc'
   refine h2.own ⟨Nat.le_refl _,fun b hb hp=>⟨rfl, ?_⟩⟩ (fun _=>rfl) fun l _ a _ z _=>hη1 z
   rcases hp with hp | ⟨i,hp⟩
   ·rw [hp];exact hω1n b hp
   ·rw [hp];exact hω1s b x i hp (by unfold gM;rw [hx];exact hown)
  ·have hcons:gM ins x=false:=by unfold gM;rw [hx];simpa using hown
   have hc0:c= { c' with own:=false } :=by
    rcases hcc with h | h
    ·rw [h];have:c.own=false:=by simpa using hown
     rw [←this]
    ·exact h
   rw [hc0]
   exact h2.view hω1n (fun b i hb=>hω1f b x i hb hcons) (fun _=>rfl) fun l _ a _ z _=>hη1 z
 have hargs:nB η1 args (xs.toList.map a.eval):=by
  obtain ⟨h1,h2⟩:=hopsL
  refine ⟨h1,fun j av hj=> ?_⟩
  obtain ⟨u,h3,h4⟩:=h2 j av hj
  exact ⟨u,h3,h4.mono fun y _=>hη1 y⟩
 have hcall:=hfc w η1 ω1 _ hmem hargs
 have hrun:(execOp a.eval ⟨dst, .call { callee:= .value (.func f),args:=xs,argTypes:=ts },ty,ps,af,gd⟩).run P w= .ok (.enter f (xs.toList.map a.eval).toArray) w:=by
  have:(xs.toList.map a.eval).toArray=xs.map a.eval:=by apply Array.ext';simp
  rw [this]
  simp [execOp,resolve,Act.eval,Deferred.ofValue,invoke,uI hf]
 unfold Oper.wp
 rw [hrun,Oper.upon_enter]
 refine hcall.mono fun e w' hl=> ?_
 obtain ⟨v,η2,ω2,rfl,hdv,hm2,hfr,hbk⟩:=hl
 have hdst:∀t,dst=some t→t < nt:=fun t ht'=>by subst ht';simpa using ht
 let ω3:bY:=fun b=>if b < w.heap.size∧ω1 b=none then ω b else ω2 b
 let η3:Env:= { h:=fun y=>if jz outs y=true then η2.h y else if gM ins y=true then none else η.h y,r:=fun y i=>if jz outs y=true then η2.r y i else η.r y i }
 have hturn:CH η η3 (jz outs) (jf (kp.map (·.2))):=fun y=>by
  by_cases ho:jz outs y=true
  ·refine .inr (.inr ⟨ho,fun hk h' he=> ?_⟩)
   obtain ⟨hin',j,hj,hj'⟩:=ua hkp hk
   obtain ⟨u,hu,hdu⟩:=hbk j _ hj'
   obtain ⟨u',hu',hdu'⟩:=hopsL.2 j _ hj
   rw [hu] at hu';obtain rfl:=Option.some.inj hu'
   have he2:η2.h y=some h':=by simp only [η3,if_pos ho] at he;exact he
   obtain ⟨b,o,g1,g2⟩:=(show c6 η2 (.ptr y 0) u from hdu).2 h' he2
   obtain ⟨u'',hu'',hdu''⟩:=hargs.2 j _ hj
   have hlk:∃h,η.h y=some h:=by
    obtain ⟨c,hc⟩:=Option.isSome_iff_exists.1 hin'
    obtain ⟨c',hc',_⟩:=sg hin hc
    obtain ⟨h,hh,_⟩:=hs.mem.1 y c' hc'
    exact ⟨h,hh⟩
   obtain ⟨h,hh⟩:=hlk
   obtain ⟨b',o',g1',g2'⟩:=(show c6 η (.ptr y 0) u from hdu').2 h hh
   rw [g2] at g2'
   injection g2' with g2';injection g2' with g2';injection g2' with g2' g3'
   refine ⟨h,hh, ?_⟩
   rw [g1,g1']
   subst g2'
   simp at g3'
   rw [g3']
  ·by_cases hc:gM ins y=true
   ·exact .inl (by simp only [η3,if_neg ho,if_pos hc])
   ·exact .inr (.inl ⟨by simp only [η3,if_neg ho,if_neg hc],fun i=>by simp only [η3,if_neg ho]⟩)
 have hω3:∀b,b < w.heap.size→ω1 b=none→ω3 b=ω b:=fun b h1 h2=>by simp only [ω3,if_pos (And.intro h1 h2)]
 have hb3:∀b,b < w.heap.size→ω1 b=none→w'.heap[b]? =w.heap[b]? :=fun b h1 h2=>(hfr.block b h1 h2).1
 have hω32:∀b o,ω2 b=some o→ω3 b=some o:=fun b o h=>by
  by_cases e:b < w.heap.size∧ω1 b=none
  ·have:=(hfr.block b e.1 e.2).2
   rw [this] at h;cases h
  ·simp only [ω3,if_neg e,h]
 have hsame:Same ω w ω3 w' (fun o=>o=none∨∃y i,o=some (y,i)∧gM ins y=false):=by
  refine ⟨hfr.size,fun b hb hp=> ?_⟩
  have h1:ω1 b=none:=by
   rcases hp with h | ⟨y,i,h,hc⟩
   ·exact hω1n b h
   ·exact hω1f b y i h hc
  exact ⟨hb3 b hb h1,hω3 b hb h1⟩
 have hst:dY w0 ω0 nt (S.after ins outs (kp.map (·.2))) η3 ω3 a w':=by
  refine { dfr:=hs.dfr,tsz:=hs.tsz,slots:=fun t av ht'=> ?_,phs:=fun t av ht'=> ?_,mem:=⟨fun y c hy=> ?_,fun y hy=> ?_⟩,fr:= ?_ }
  ·obtain ⟨h1,h2⟩:=jC ht'
   obtain ⟨u,h3,h4⟩:=hs.slots t av h1
   exact ⟨u,h3,h4.oD hturn h2⟩
  ·obtain ⟨h1,h2⟩:=jC ht'
   obtain ⟨u,h3,h4⟩:=hs.phs t av h1
   exact ⟨u,h3,h4.oD hturn h2⟩
  ·have hy:(match lk y outs with
    | some c=>some c
    | none=>bif gM ins y then none else (S.ch y).map (Ch.clean (jz outs) (jf (kp.map (·.2)))))=some c:=hy
   cases hl:lk y outs with
   | some c1=>
    rw [hl] at hy
    obtain rfl:=Option.some.inj hy
    have ho:jz outs y=true:=by unfold jz;rw [hl];rfl
    obtain ⟨hd,h1,h2⟩:=hm2.1 y c1 hl
    refine ⟨hd,by simp only [η3,if_pos ho];exact h1, ?_⟩
    have hall:=List.all_eq_true.1 hno _ (lg hl)
    simp only [Bool.and_eq_true] at hall
    refine eA.Jy (η:=η2) (ω:=ω2) (w:=w') hall.1 (fun b i _ hb=>⟨rfl,hω32 b _ hb⟩) (fun i=>by simp only [η3,if_pos ho]) (fun l hlf b1 hb1 z hz=> ?_) h2
    have hz':jz outs z=true:=List.all_eq_true.1 hall.2 z (Ch.uK hlf hb1 hz)
    exact .inr ⟨by simp only [η3,if_pos hz'],fun i=>by simp only [η3,if_pos hz']⟩
   | none=>
    rw [hl] at hy
    have ho:jz outs y=false:=by unfold jz;rw [hl];rfl
    cases hc:gM ins y with
    | true=>rw [hc] at hy;cases hy
    | false=>
     rw [hc] at hy
     simp only [cond_false,Option.map_eq_some_iff] at hy
     obtain ⟨c0,hc0,rfl⟩:=hy
     obtain ⟨hd,h1,h2⟩:=hs.mem.1 y c0 hc0
     refine ⟨hd,by simp only [η3,ho,hc];exact h1, ?_⟩
     exact h2.oD hsame (.inl rfl) (fun i=> .inr ⟨y,i,rfl,hc⟩) (fun i=>by simp only [η3,ho];rfl) hturn
  ·have hy:(match lk y outs with
    | some c=>some c
    | none=>bif gM ins y then none else (S.ch y).map (Ch.clean (jz outs) (jf (kp.map (·.2)))))=none:=hy
   cases hl:lk y outs with
   | some c1=>rw [hl] at hy;cases hy
   | none=>
    rw [hl] at hy
    have ho:jz outs y=false:=by unfold jz;rw [hl];rfl
    cases hc:gM ins y with
    | true=>simp only [η3,ho,hc];rfl
    | false=>
     rw [hc] at hy
     simp only [cond_false,Option.map_eq_none_iff] at hy
     simp only [η3,ho,hc]
     exact hs.mem.2 y hy
  ·refine ⟨hfr.os.trans hs.fr.os,hfr.tape.trans hs.fr.tape,hfr.output.trans hs.fr.output,Nat.le_trans hs.fr.size hfr.size,fun b hb hn=> ?_⟩
   obtain ⟨h1,h2⟩:=hs.fr.block b hb hn
   have hlt:=Nat.lt_of_lt_of_le hb hs.fr.size
   exact ⟨(hb3 b hlt (hω1n b h2)).trans h1,(hω3 b hlt (hω1n b h2)).trans h2⟩
 cases dst with
 | none=>exact ⟨η3,ω3,hst⟩
 | some t=>exact ⟨η3,ω3,hst.fU (hdst t rfl) (hdv.mono fun y hy=>by
   have hz':jz outs y=true:=List.all_eq_true.1 hnr y (AV.fc hy)
   exact .inr ⟨by simp only [η3,if_pos hz'],fun i=>by simp only [η3,if_pos hz']⟩)⟩
end
end Go.Proofs.YtekbhbcgoadciaaGreat
