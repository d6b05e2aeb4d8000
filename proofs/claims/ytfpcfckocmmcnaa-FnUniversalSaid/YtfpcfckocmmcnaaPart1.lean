/- Words for the walks of this seat: integer slices that are read, rows that a call owns, and the walk's laws on make and append in those words. No program in sight. -/
import Derived.WalkKit
import Derived.WalkSpells
import Derived.WalkLawsBesides
import Derived.Lib.Hide
import Derived.BigQuiet
import Derived.Deep.QuietTactic
import Derived.Deep.Draws
import Derived.Deep.AppendLies
import Derived.Maps.AppendAt
import Derived.Test.YtfpcfckocmmcnaaRows
import Derived.ProofKit
import Derived.OpenShut
import Derived.SizedLaws
import Derived.ChangeSame
import Derived.Deep.Slices
import Derived.Test.YtfpcfckocmmcnaaProg
import Derived.RegionTactic
import Derived.Deep.RegionLaw
import Derived.Deep.DeepCutAuto
import Derived.Deep.CutBlock
set_option maxRecDepth 100000
set_option maxHeartbeats 6400000
namespace Go.Proofs.Ytfpcfckocmmcnaa
theorem ae.{u} {α:Sort u} {a b:α} (h:a=b:=by as_aux_lemma=>kernel_rfl):a=b:=h
theorem aZ {p:Prop} (h:p:=by first | exact Nat.le_refl _ | exact Nat.le_of_eq (bD _).symm | exact Nat.le_of_eq (cB _).symm | (refine Nat.le_trans ?_ (Nat.le_of_eq (bD _).symm);(first | omega | (simp;done) | (simp;omega))) | (refine Nat.le_trans ?_ (Nat.le_of_eq (cB _).symm);(first | omega | (simp;done) | (simp;omega)))):p:=h
theorem aK {p:Prop} (h:p:=by first | assumption | exact ck (by assumption) | exact bV (by assumption) | exact ck (by omega) | exact bV (by omega) | rfl):p:=h
theorem aC {p:Prop} (h:p:=by first | assumption | omega | (simp;omega)):p:=h
theorem aY {p:Prop} (h:p:=by first | rfl | exact (Int.toNat_of_nonneg (by omega)).symm):p:=h
theorem bL {p:Prop} (h:p:=by first | exact IntWalk.i64_in _ (by omega) | rfl):p:=h
theorem df {p:Prop} (h:p:=by first | exact bD _ | assumption | rfl):p:=h
theorem ab {p:Prop} (h:p:=by omega):p:=h
theorem IF {p:Prop} (h:p:=by assumption):p:=h
theorem aq:True:=trivial
open Go.RowKit
def aD (zs:List Int) (k:Nat):Int:=zs.getD k 0
theorem cA {zs:List Int} {k:Nat} (h:k < zs.length):aD zs k=zs[k]:=by simp [aD,h]
theorem jm {zs:List Int} {k:Nat} (h:k < zs.length):aD zs k∈zs:=by rw [cA h];exact List.getElem_mem h
theorem oM {zs:List Int} {k:Nat} (h:k < zs.length):zs.take (k + 1)=zs.take k ++ [aD zs k]:=by
 rw [List.take_succ_eq_append_getElem h,cA h]
theorem j7 {za zb:List Int} (hl:za.length=zb.length) (h:∀k,k < za.length→aD za k=aD zb k):za=zb:=by
 apply List.ext_getElem hl
 intro k h1 h2
 rw [←cA h1,←cA h2];exact h k h1
theorem j0 {zs:List Int} {p:Int→Bool} {k:Nat} (h:k < zs.length):(zs.take (k + 1)).all p=((zs.take k).all p && p (aD zs k)):=by
 rw [oM h,List.all_append];simp
theorem tg {zs:List Int} {p:Int→Bool} {k:Nat} (h:k < zs.length):(zs.take (k + 1)).any p=((zs.take k).any p || p (aD zs k)):=by
 rw [oM h,List.any_append];simp
theorem nx {zs:List Int} {p:Int→Bool} {k:Nat} (h:k < zs.length) (hp:p (aD zs k)=false):zs.all p=false:=by
 rw [List.all_eq_false];exact ⟨_,jm h,by simp [hp]⟩
def bk (ao:Option Addr):Option Nat:=ao.map (·.block)
theorem bN (ao:Option Addr) (n c:Nat):(Value.slice ao n c).ownBlock=bk ao:=by cases ao<;>rfl
def sV (w:World) (ao:Option Addr) (n:Nat) (xs:List Value):Prop:=
 xs.length=n∧n≤17592186044416∧(0 < n→∃b off,ao=some ⟨b,off,none⟩∧∀j u,xs[j]? =some u→w.cell? ⟨b,off + j,none⟩=some u)
def cW (w:World) (ao:Option Addr) (n:Nat) (zs:List Int):Prop:=
 zs.length=n∧n≤17592186044416∧(0 < n→∃b off,ao=some ⟨b,off,none⟩∧∀j,j < n→w.cell? ⟨b,off + j,none⟩=some (.int .i64 (aD zs j)))
theorem cW.at_ {w:World} {ao:Option Addr} {n:Nat} {zs:List Int} (h:cW w ao n zs) {k:Nat} (hk:k < n):
  ∃b off,ao=some ⟨b,off,none⟩∧w.cell? ⟨b,off + k,none⟩=some (.int .i64 (aD zs k)):=by
 obtain ⟨b,off,e,hc⟩:=h.2.2 ab
 exact ⟨b,off,e,hc k hk⟩
theorem cW.GK {w:World} {ao:Option Addr} {n:Nat} {zs:List Int} (h:cW w ao n zs) (hn:0 < n):
  ∃b off,ao=some ⟨b,off,none⟩∧b < w.heap.size∧∀j,j < n→w.cell? ⟨b,off + j,none⟩=some (.int .i64 (aD zs j)):=by
 obtain ⟨b,off,e,hc⟩:=h.2.2 hn
 exact ⟨b,off,e,World.block_lt_of_cell? w _ (hc 0 hn),hc⟩
theorem cW.cz {w:World} {ao:Option Addr} {n:Nat} {zs:List Int} (h:cW w ao n zs):sV w ao n (zs.map (Value.int .i64)):=by
 refine ⟨by simpa using h.1,h.2.1,fun hn=> ?_⟩
 obtain ⟨b,off,e,hc⟩:=h.2.2 hn
 refine ⟨b,off,e,fun j u hu=> ?_⟩
 have hl:=h.1
 have hj:j < zs.length:=by have:=(List.getElem?_eq_some_iff.1 hu).1;simpa using this
 rw [hc j ab,←hu,List.getElem?_map,List.getElem?_eq_getElem hj,cA hj];rfl
theorem cW.drewN {w:World} {ao:Option Addr} {n:Nat} {zs:List Int} (h:cW w ao n zs) (m:Nat):cW (w.drewN m) ao n zs:=h
theorem cW.same {w w':World} {ao:Option Addr} {n:Nat} {zs:List Int} (h:cW w ao n zs) (hs:∀g,bk ao=some g→g < w.heap.size→w'.heap[g]? =w.heap[g]?):cW w' ao n zs:=by
 refine ⟨h.1,h.2.1,fun hn=> ?_⟩
 obtain ⟨b,off,rfl,hb,hc⟩:=h.GK hn
 exact ⟨b,off,rfl,fun j hj=>(World.cell?_of_block (hs b rfl hb)).trans (hc j hj)⟩
theorem cW.below {w w':World} {ao:Option Addr} {n:Nat} {zs:List Int} (h:cW w ao n zs) (hb:Below w.heap.size w w'):cW w' ao n zs:=
 h.same fun g _ hg=>hb.block g hg
theorem cW.EU {w:World} {n:Nat} {zs:List Int} (h:cW w none n zs):n=0∧zs= []:=by
 rcases Nat.eq_zero_or_pos n with h0 | h0
 ·exact ⟨h0,List.eq_nil_of_length_eq_zero (h.1.trans h0)⟩
 ·obtain ⟨b,off,e,_⟩:=h.2.2 h0
  cases e
def Own (w:World) (base E:Nat) (ao:Option Addr) (n c:Nat) (xs:List Value):Prop:=
 w.ownsRow base E 1 (.slice ao n c) n xs∧n≤4398046511104
section
variable {w w':World} {base E:Nat} {ao:Option Addr} {n c:Nat} {xs:List Value} {row:Option Nat}
theorem Own.len (h:Own w base E ao n c xs):xs.length=n:=by have:=h.1.1;omega
theorem Own.lt (h:Own w base E ao n c xs):∀g,bk ao=some g→base≤g∧g < w.heap.size:=by
 have:=h.1.lt
 rw [bN] at this;exact this
theorem Own.drewN (h:Own w base E ao n c xs) (m:Nat):Own (w.drewN m) base E ao n c xs:=h
theorem Own.same (h:Own w base E ao n c xs) (hs:∀g,bk ao=some g→w'.heap[g]? =w.heap[g]?):Own w' base E ao n c xs:=by
 refine ⟨⟨h.1.1, ?_⟩,h.2⟩
 rcases h.1.2 with h2 | ⟨g,cap,cur,hv,hg,hh,r⟩
 ·exact Or.inl h2
 ·refine Or.inr ⟨g,cap,cur,hv,hg, ?_,r⟩
  have:bk ao=some g:=by injection hv with h1;subst h1;rfl
  rw [hs g this];exact hh
theorem Own.below (h:Own w base E ao n c xs) (hb:Below w.heap.size w w'):Own w' base E ao n c xs:=
 h.same fun g hg=>hb.block g (h.lt g hg).2
theorem Own.Gb {B:Nat} (h:Own w base E ao n c xs) (hb:Below B w w') (hlt:∀g,bk ao=some g→g < B):Own w' base E ao n c xs:=
 h.same fun g hg=>hb.block g (hlt g hg)
theorem Own.alloc (h:Own w base E ao n c xs) (o:Obj):Own (w.alloc o) base E ao n c xs:=⟨h.1.alloc o,h.2⟩
theorem Own.mono (h:Own w base E ao n c xs) {base':Nat} (hb:base'≤base):Own w base' E ao n c xs:=by
 refine ⟨⟨h.1.1, ?_⟩,h.2⟩
 rcases h.1.2 with h2 | ⟨g,cap,cur,hv,hg,r⟩
 ·exact Or.inl h2
 ·exact Or.inr ⟨g,cap,cur,hv,ab,r⟩
theorem Own.form (h:Own w base E ao n c xs) (hn:0 < n):∃g,ao=some ⟨g,0,none⟩∧base≤g∧g < w.heap.size∧n≤c∧(∀j,j < n→w.cell? ⟨g,j,none⟩=xs[j]?)∧(∀j,w.frozen? ⟨g,j,none⟩=false):=by
 obtain ⟨g,cap,hv,hb,hlt⟩:=h.1.form hn
 injection hv with h1 _ h2
 subst h1 h2
 refine ⟨g,rfl,hb,hlt, ?_,fun j hj=>h.1.cellAt j ab,fun j=>h.1.frozenAt j⟩
 rcases h.1.2 with ⟨h2,_⟩ | ⟨g',cap',cur,hv,_,_,hnc,_⟩
 ·cases h2
 ·injection hv with _ _ h3;subst h3;exact hnc
theorem Own.stored {g:Nat} (h:Own w base E (some ⟨g,0,none⟩) n c xs) (k:Nat) (u:Value):
  Own (w.setCell ⟨g,k,none⟩ u) base E (some ⟨g,0,none⟩) n c (xs.set k u)∧w.grownBy (w.setCell ⟨g,k,none⟩ u) (some g):=
 ⟨⟨(h.1.stored k u).1,h.2⟩,(h.1.stored k u).2⟩
theorem Own.dD (w:World) {base:Nat} (E:Nat) (hb:base≤w.heap.size):Own (w.alloc (.cells #[] E)) base E (some ⟨w.heap.size,0,none⟩) 0 0 []:=⟨World.ownsRow_made w #[] 0 hb (by simp [maxLen]) rfl,ab⟩
theorem Own.iX (w:World) (base E:Nat):Own w base E none 0 0 []:=⟨World.ownsRow_nil w base E 1,ab⟩
end
theorem Own.ints {w:World} {base E:Nat} {ao:Option Addr} {n c:Nat} {zs:List Int} (h:Own w base E ao n c (zs.map (Value.int .i64))):cW w ao n zs:=by
 have hl:zs.length=n:=by have:=h.len;simpa using this
 refine ⟨hl,by have:=h.2;omega,fun hn=> ?_⟩
 obtain ⟨g,rfl,_,_,_,hc,_⟩:=h.form hn
 refine ⟨g,0,rfl,fun j hj=> ?_⟩
 rw [Nat.zero_add,hc j hj,List.getElem?_map,List.getElem?_eq_getElem ab,cA ab];rfl
structure ET (P:Program) (S E:TypeId) (z:Value) (bytes:Nat):Prop where
 und:P.underlying S=some (.slice E)
 info:(P.info? E).map (fun i=>(i.zero,i.size,i.bytes))=some (some z,1,bytes)
 one:z.cells= #[z]
 small:bytes≤32
theorem jg {a b c:World} {row:Option Nat} (h:a.grownBy b row) (k:b.grownBy c row):a.grownBy c row:=
 ⟨k.os.trans h.os,k.tape.trans h.tape,k.output.trans h.output,Nat.le_trans h.size k.size,fun i hi hne=>(k.block i (Nat.lt_of_lt_of_le hi h.size) hne).trans (h.block i hi hne)⟩
theorem below_drewN {B:Nat} {a w:World} (h:Below B a w) (n:Nat):Below B a (w.drewN n):=⟨h.os,h.tape,h.output,h.size,h.block⟩
theorem mq {w:World} {base E g:Nat} {us:List Value} (hg:w.heap.size=g) (hb:base≤w.heap.size) (hn:us.length≤4398046511104):Own (w.alloc (.cells us.toArray E)) base E (some ⟨g,0,none⟩) us.length us.length us:=by
 subst hg
 exact ⟨by simpa using World.ownsRow_lit (e:=E) (size:=1) w us.toArray us.length hb (by simp [maxLen];omega) (by simp),hn⟩
section
variable {P:Program} {ops:Array Oper} {rest:List Oper} {o:Oper} {a:Act} {Q:Exit→Act→World→Prop}
theorem kh {S E:TypeId} {z:Value} {bytes:Nat} (et:ET P S E z bytes) (w:World) (hg:o.guard=none) (l c:Operand) (hop:o.op=Op.makeSlice S l c) (base:Nat)
  (kl kc:IntKind) (L C:Int) (n:Nat) (hl:a.eval l= .int kl L) (hc:a.eval c= .int kc C) (hL:L=(n:Int)) (hC:C=(n:Int)) (hn:n≤4398046511104) (hb:base≤w.heap.size)
  (hK:∀w',Own w' base E (some ⟨w.heap.size,0,none⟩) n n (List.replicate n z)→w.grownBy w' none→w'.heap.size=w.heap.size + 1→wpList P ops Q rest (a.put o.dst (.slice (some ⟨w.heap.size,0,none⟩) n n)) w'):
  wpList P ops Q (o :: rest) a w:=by
 obtain ⟨i,hi,hz,hs,hby⟩:=info_parts et.info
 refine wpList_plain hg fun K hK'=> ?_
 have hr:=run_make (P:=P) w S E i z et.und hi hz kl kc (n:Int) (n:Int) ab ab (by have:=et.small;rw [hby];have:(bytes:Int) * n≤32 * n:=Int.mul_le_mul_of_nonneg_right ab ab;omega) ab
 simp only [Int.toNat_natCast] at hr
 subst hL;subst hC
 unfold Oper.wp
 simp [execOp,hop,hl,hc,hr,Result.andThen]
 refine hK' _ _ (hK _ ⟨?_,hn⟩ (World.grownBy_alloc w _ none) (by simp))
 have:=World.ownsRow_lit (e:=E) (size:=i.size) w (madeCells z.cells (n * i.size)) n hb (by simp [maxLen];omega) (size_madeCells _ _)
 rw [hs,et.one,Nat.mul_one,toList_madeCells_one] at this
 rw [et.one,hs,Nat.mul_one]
 exact this
theorem eL {S E:TypeId} {z:Value} {bytes:Nat} (et:ET P S E z bytes) (w:World) (hg:o.guard=none) (s x:Operand) (ho:o.op= .call { callee:= .builtin .append,args:= #[s,x],argTypes:= #[S,S] })
  (base:Nat) (ao:Option Addr) (n c:Nat) (xs:List Value) (hs:a.eval s= .slice ao n c) (hown:Own w base E ao n c xs) (u:Value)
  (hx:a.eval x= .slice (some ⟨w.heap.size,0,none⟩) 1 1) (hu:u.oneCell'=true) (hn:n + 1≤4398046511104) (hbase:base≤w.heap.size)
  (hK:∀ao' c' w',Own w' base E ao' (n + 1) c' (xs ++ [u])→w.grownBy w' (bk ao)→(bk ao'=bk ao∨bk ao'=some (w.heap.size + 1))→wpList P ops Q rest (a.put o.dst (.slice ao' (n + 1) c')) w'):
  wpList P ops Q (o :: rest) a (w.alloc (.cells #[u] E)):=by
 obtain ⟨i,hi,hz,hsz,hby⟩:=info_parts et.info
 refine wpList_append_own_at _ hg s x S ho base E i z 1 bytes et.und hi hz hsz hby (by rw [et.one];rfl) ab (.slice ao n c) n xs hs (hown.1.alloc _) ⟨w.heap.size,0,none⟩ 1 1 [u] hx rfl (cell_one_new _ _ _)
  (by intro v hv;simp at hv;subst hv;exact hu) (by simp [maxLen];omega) (by have:=et.small;have:(n + 1) * bytes≤(n + 1) * 32:=Nat.mul_le_mul_left _ this;omega) (by simp;omega) ?_
 intro v' w' h1 h2 _ h4
 rw [bN] at h2 h4
 obtain ⟨g,cap,rfl,hb,hlt⟩:=h1.form ab
 refine hK _ _ _ ⟨h1,hn⟩ (jg (World.grownBy_alloc w _ _) h2) ?_
 rw [bN] at h4
 simpa using h4
theorem gp {S E:TypeId} {z:Value} {bytes:Nat} (et:ET P S E z bytes) (w:World) (hg:o.guard=none) (s x:Operand) (ho:o.op= .call { callee:= .builtin .append,args:= #[s,x],argTypes:= #[S,S] })
  (base:Nat) (ao:Option Addr) (n c:Nat) (xs:List Value) (hs:a.eval s= .slice ao n c) (hown:Own w base E ao n c xs) (ad:Option Addr) (m mc:Nat) (news:List Value)
  (hx:a.eval x= .slice ad m mc) (hr:sV w ad m news) (h1:∀u∈news,u.oneCell'=true) (hn:n + m≤4398046511104) (hbase:base≤w.heap.size)
  (hK:∀ao' c' w',Own w' base E ao' (n + m) c' (xs ++ news)→w.grownBy w' (bk ao)→(bk ao'=bk ao∨bk ao'=some w.heap.size)→wpList P ops Q rest (a.put o.dst (.slice ao' (n + m) c')) w'):
  wpList P ops Q (o :: rest) a w:=by
 obtain ⟨i,hi,hz,hsz,hby⟩:=info_parts et.info
 rcases Nat.eq_zero_or_pos m with h0 | h0
 ·subst h0
  have hz0:news= []:=List.eq_nil_of_length_eq_zero hr.1
  subst hz0
  cases ad with
  | none=>
   have hrun:(Builtin.append_ #[S,S] o.type #[.slice ao n c, .slice none 0 mc]).run P w= .ok (.slice ao n c) w:=by
    rcases hown.1.2 with ⟨hv,rfl⟩ | ⟨g,cap,cur,hv,_,_,hnc,_⟩
    ·rw [hv];simp [Builtin.append_,run_underlying et.und,sizeOf,typeInfo,hi,Builtin.lenOf,Builtin.firstCells]
    ·rw [hv];simp [Builtin.append_,run_underlying et.und,sizeOf,typeInfo,hi,Builtin.lenOf,Builtin.firstCells,hnc,storeCells]
   refine wpList_plain hg fun K hK'=> ?_
   unfold Oper.wp execOp
   simp only [ho,resolve,invoke,builtin,Sem.run_bind,Sem.run_pure,Result.andThen_ok,List.map_toArray,List.map_cons,List.map_nil,hs,hx,hrun]
   exact hK' _ _ (hK ao c w (by simpa using hown) (World.grownBy.refl w _) (.inl rfl))
  | some ad=>
   refine wpList_append_own_at _ hg s x S ho base E i z 1 bytes et.und hi hz hsz hby (by rw [et.one];rfl) ab (.slice ao n c) n xs hs hown.1 ad 0 mc [] hx rfl (by intro j u hu;simp at hu)
    (by intro v hv;simp at hv) (by simp [maxLen];omega) (by have:=et.small;have:(n + 0) * bytes≤(n + 0) * 32:=Nat.mul_le_mul_left _ this;omega) hbase ?_
   intro v' w' h1 h2 h3 h4
   rw [bN] at h2 h4
   rcases h1.2 with ⟨rfl,hn0⟩ | ⟨g,cap,cur,rfl,_,_,_,_⟩
   ·have h5:=h3.1 rfl
    obtain ⟨h5,_⟩:=h5
    injection h5 with h5 h6 h7
    subst h5 h6 h7
    exact hK none 0 w' ⟨by simpa using h1,ab⟩ h2 (.inl rfl)
   ·refine hK _ _ _ ⟨by simpa using h1,hn⟩ h2 ?_
    rw [bN] at h4;exact h4
 ·obtain ⟨b,off,rfl,hc⟩:=hr.2.2 h0
  have hl:=hr.1
  refine wpList_append_own_at _ hg s x S ho base E i z 1 bytes et.und hi hz hsz hby (by rw [et.one];rfl) ab (.slice ao n c) n xs hs hown.1 ⟨b,off,none⟩ m mc news hx (by simp [hl])
   (by
    intro j u hu
    rw [Addr.add_lit];exact hc j u hu)
   h1 (by simp [maxLen];omega) (by have:=et.small;have:(n + m) * bytes≤(n + m) * 32:=Nat.mul_le_mul_left _ this;omega) hbase ?_
  intro v' w' h1 h2 _ h4
  rw [bN] at h2 h4
  obtain ⟨g,cap,rfl,hb,hlt⟩:=h1.form ab
  refine hK _ _ _ ⟨h1,hn⟩ h2 ?_
  rw [bN] at h4
  simpa using h4
theorem kL {S E:TypeId} {z:Value} {bytes:Nat} (et:ET P S E z bytes) (w:World) (hg:o.guard=none) (s x:Operand) (ho:o.op= .call { callee:= .builtin .append,args:= #[s,x],argTypes:= #[S,S] })
  (base:Nat) (ao:Option Addr) (n c:Nat) (xs:List Value) (hs:a.eval s= .slice ao n c) (hown:Own w base E ao n c xs) (ad:Option Addr) (m mc:Nat) (zs:List Int)
  (hx:a.eval x= .slice ad m mc) (hr:cW w ad m zs) (hn:n + m≤4398046511104) (hbase:base≤w.heap.size)
  (hK:∀ao' c' w',Own w' base E ao' (n + m) c' (xs ++ zs.map (Value.int .i64))→w.grownBy w' (bk ao)→(bk ao'=bk ao∨bk ao'=some w.heap.size)→wpList P ops Q rest (a.put o.dst (.slice ao' (n + m) c')) w'):
  wpList P ops Q (o :: rest) a w:=
 gp et w hg s x ho base ao n c xs hs hown ad m mc (zs.map (Value.int .i64)) hx hr.cz (ints_oneCell _ _) hn hbase hK
end
structure fH (lo hi:Nat) (w w':World):Prop where
 os:w'.os=w.os
 tape:w'.tape=w.tape
 output:w'.output=w.output
 size:w.heap.size≤w'.heap.size
 block:∀k,k < w.heap.size→(k < lo∨hi≤k)→w'.heap[k]? =w.heap[k]?
theorem fH.below {lo hi:Nat} {w w':World} (h:fH lo hi w w') {B:Nat} (hB:B≤lo) (hw:B≤w.heap.size):Below B w w':=⟨h.os,h.tape,h.output,h.size,fun k hk=>h.block k ab (.inl ab)⟩
theorem fH.refl (lo hi:Nat) (w:World):fH lo hi w w:=⟨rfl,rfl,rfl,Nat.le_refl _,fun _ _ _=>rfl⟩
theorem fH.trans {lo hi:Nat} {a b c:World} (h:fH lo hi a b) (k:fH lo hi b c):fH lo hi a c:=
 ⟨k.os.trans h.os,k.tape.trans h.tape,k.output.trans h.output,Nat.le_trans h.size k.size,fun i hi hd=>(k.block i (Nat.lt_of_lt_of_le hi h.size) hd).trans (h.block i hi hd)⟩
theorem Own.only {w w':World} {base E:Nat} {ao:Option Addr} {n c:Nat} {xs:List Value} {lo hi lo' hi':Nat} (h:Own w base E ao n c xs) (ho:fH lo hi w w') (hl:∀g,bk ao=some g→lo'≤g∧g < hi') (hd:hi'≤lo∨hi≤lo'):Own w' base E ao n c xs:=
 h.same fun g hg=>ho.block g (h.lt g hg).2 (by have:=hl g hg;omega)
theorem gI {k:IntKind} {a b:Int} (h:a=b):Ending.returned (.int k a)= .returned (.int k b):=by rw [h]
theorem cx {a b:Bool} (h:a=b):Ending.returned (.bool a)= .returned (.bool b):=by rw [h]
end Go.Proofs.Ytfpcfckocmmcnaa
namespace Go.Proofs.Ytfpcfckocmmcnaa
open Go.ChangeShapes Go.WideShapes Go.ChangeAt Go.RowKit Go.Deep
section
variable {H:Type} {enc:TypeId×Value→H} {P:Program}
theorem sW {f:Func} {s:ChangeSpec} {apart fresh handsOn again:Bool} {W W':World} {args:Array Value} {v:Value} {ds gs:List (DataW H)} {before pa pv:List MemPlace}
  (hW:DataW.Whole enc P f.params.toList s.vars apart W args.toList ds gs before)
  (hres:∀(b:Nat) (sp:Nat→Bool) (hd:Bool),DataW.TrodAll enc P W' b sp hd f.resultTypes.toList (v.resultList f.resultTypes.size) (s.fn H (ds ++ gs)).results [])
  (hargs:∀sp:Nat→Bool,(∀p∈before,sp p.block=true)→DataW.TrodAll enc P W' 0 sp true f.params.toList args.toList (s.fn H (ds ++ gs)).args pa)
  (hvars:∀sp:Nat→Bool,(∀p∈before,sp p.block=true)→DataW.TrodVars enc P W' sp s.vars (s.fn H (ds ++ gs)).vars pv)
  (hps:before=pa ++ pv) (hb:Below W.heap.size W W')
  (hok:∀(j:Nat) (t:TypeId) (r:Value),f.resultTypes[j]? =some t→(v.resultList f.resultTypes.size)[j]? =some r→Value.okWide P W' .any 0 t r):
  s.post enc P f apart fresh handsOn again W args v W':=by
 have hlt:∀p∈before,p.block < W.heap.size:=fun p hp=>hW.lt p hp
 have hold:∀p∈before,(fun b=>decide (b < W.heap.size)) p.block=true:=fun p hp=>by simpa using hlt p hp
 refine ⟨ds,gs,before, [],pa,pv,hW,hres _ _ _,hargs _ hold,hvars _ hold,World.keptBut_mono (fun p hp=>⟨hp, ?_⟩) (hb.frame (· ∈before)),fun _=> ?_⟩
 ·rw [hps,List.mem_append] at hp
  exact Or.inr hp
 ·obtain ⟨_,_,_,_,_,hz,hn⟩:=hW
  refine ⟨hok,_,_,([] ++ pa) ++ pv,⟨[] ++ pa,pv,trodAll_append (hargs _ (fun _ _=>rfl)) (hres _ _ _),hvars _ (fun _ _=>rfl),rfl, ?_, ?_⟩, ?_⟩
  ·intro b off hp
   have hin:MemPlace.cell b off∈before:=by rw [hps];simpa using hp
   rw [hb.frozen (hlt _ hin)]
   exact hz b off hin
  ·intro ha
   have:=hn ha
   rw [hps] at this
   simpa using this
  ·intro p hp _
   rw [hps]
   simpa using hp
theorem mE (hl:laidOutB P=true) {W W':World} (hb:Below W.heap.size W W') {sp:Nat→Bool} :∀(ts:List TypeId) (vs:List Value) (ds:List (DataW H)) (ps:List MemPlace),
  (∀t∈ts,P.readableRec t=true∧t < P.types.size)→(∀p∈ps,p.block < W.heap.size)→(∀p∈ps,sp p.block=true)→
  DataW.TrodAll enc P W 0 (fun _=>true) true ts vs ds ps→DataW.TrodAll enc P W' 0 sp true ts vs ds ps
 | [],vs,ds,ps,_,_,_,h=>by
  obtain ⟨rfl,rfl,rfl⟩:=trodAll_nil h
  exact trodAll_mk0
 | t :: ts,vs,ds,ps,ht,hlt,hsp,h=>by
  obtain ⟨v,vs',d,ds',p,q,rfl,rfl,rfl,h0,r0⟩:=trodAll_cons h
  exact trodAll_cons_mk (WideElems.Trod_stays hl (ht t (by simp)).1 (ht t (by simp)).2 h0 (fun x hx=>hb.same (hlt x (by simp [hx]))) (fun x hx=>hsp x (by simp [hx])))
   (mE hl hb ts vs' ds' q (fun t' h'=>ht t' (by simp [h'])) (fun p' hp=>hlt p' (by simp [hp])) (fun p' hp=>hsp p' (by simp [hp])) r0)
end
end Go.Proofs.Ytfpcfckocmmcnaa
namespace Go.Proofs.Ytfpcfckocmmcnaa
open Go.RowKit
def In (lo hi:Nat) (u:Value):Prop:=∀g,u.ownBlock=some g→lo≤g∧g < hi
theorem In.mono {lo hi lo' hi':Nat} {u:Value} (h:In lo hi u) (h1:lo'≤lo) (h2:hi≤hi'):In lo' hi' u:=fun g hg=>by have:=h g hg;omega
theorem nE {lo hi:Nat} {ao:Option Addr} {n c:Nat} (h:∀g,bk ao=some g→lo≤g∧g < hi):In lo hi (.slice ao n c):=fun g hg=>h g (by rw [bN] at hg;exact hg)
structure tN {D:Type} (Ow1:World→Value→D→Prop):Prop where
 loc:∀ {w w' u d},Ow1 w u d→(∀g,u.ownBlock=some g→w'.heap[g]? =w.heap[g]?)→Ow1 w' u d
 lt:∀ {w u d},Ow1 w u d→∀g,u.ownBlock=some g→g < w.heap.size
 one:∀ {w u d},Ow1 w u d→u.oneCell'=true
structure eT {D:Type} (Ow1:World→Value→D→Prop) (w:World) (lo hi E:Nat) (ao:Option Addr) (n c:Nat) (us:List Value) (ds:List D):Prop where
 own:Own w lo E ao n c us
 top:∀g,bk ao=some g→g < hi
 len:ds.length=n
 el:∀(j:Nat) (u:Value) (d:D),us[j]? =some u→ds[j]? =some d→Ow1 w u d
 rng:∀(j:Nat) (u:Value),us[j]? =some u→In lo hi u
 out:∀(j:Nat) (u:Value) (g:Nat),us[j]? =some u→u.ownBlock=some g→bk ao≠some g
 apart:∀(i j:Nat) (u u':Value) (g:Nat),i≠j→us[i]? =some u→us[j]? =some u'→u.ownBlock=some g→u'.ownBlock≠some g
section
variable {D:Type} {Ow1:World→Value→D→Prop} {w w':World} {lo hi E:Nat} {ao:Option Addr} {n c:Nat} {us:List Value} {ds:List D}
theorem eT.GF (h:eT Ow1 w lo hi E ao n c us ds):us.length=n:=h.own.len
theorem eT.get (h:eT Ow1 w lo hi E ao n c us ds) {j:Nat} (hj:j < n):∃u d,us[j]? =some u∧ds[j]? =some d∧Ow1 w u d∧In lo hi u:=
 have h1:j < us.length:=by rw [h.GF];exact hj
 have h2:j < ds.length:=by rw [h.len];exact hj
 ⟨us[j],ds[j],List.getElem?_eq_getElem h1,List.getElem?_eq_getElem h2,h.el j _ _ (List.getElem?_eq_getElem h1) (List.getElem?_eq_getElem h2),h.rng j _ (List.getElem?_eq_getElem h1)⟩
theorem eT.same (I:tN Ow1) (h:eT Ow1 w lo hi E ao n c us ds) (hs:∀g,lo≤g→g < hi→g < w.heap.size→w'.heap[g]? =w.heap[g]?):eT Ow1 w' lo hi E ao n c us ds:=
 {own:=h.own.same fun g hg=>hs g (h.own.lt g hg).1 (h.top g hg) (h.own.lt g hg).2,top:=h.top,len:=h.len,rng:=h.rng,out:=h.out,apart:=h.apart,el:=fun j u d hu hd=>I.loc (h.el j u d hu hd) fun g hg=>hs g (h.rng j u hu g hg).1 (h.rng j u hu g hg).2 (I.lt (h.el j u d hu hd) g hg) }
theorem eT.below (I:tN Ow1) (h:eT Ow1 w lo hi E ao n c us ds) (hb:Below w.heap.size w w'):eT Ow1 w' lo hi E ao n c us ds:=h.same I fun g _ _ hg=>hb.block g hg
theorem eT.only (I:tN Ow1) (h:eT Ow1 w lo hi E ao n c us ds) {l k:Nat} (ho:fH l k w w') (hd:hi≤l∨k≤lo):eT Ow1 w' lo hi E ao n c us ds:=
 h.same I fun g h1 h2 hg=>ho.block g hg ab
theorem eT.mono (h:eT Ow1 w lo hi E ao n c us ds) {lo' hi':Nat} (h1:lo'≤lo) (h2:hi≤hi'):eT Ow1 w lo' hi' E ao n c us ds:=
 {own:=h.own.mono h1,top:=fun g hg=>Nat.lt_of_lt_of_le (h.top g hg) h2,len:=h.len,el:=h.el,out:=h.out,apart:=h.apart,rng:=fun j u hu=>(h.rng j u hu).mono h1 h2 }
theorem eT.dD (h:Own w lo E ao 0 c []) (hhi:∀g,bk ao=some g→g < hi):eT Ow1 w lo hi E ao 0 c [] []:=
 {own:=h,top:=hhi,len:=rfl,el:=fun j u d hj _=>by simp at hj,rng:=fun j u hj=>by simp at hj,out:=fun j u g hj=>by simp at hj,apart:=fun i j u u' g _ hi=>by simp at hi }
theorem eT.push (I:tN Ow1) (h:eT Ow1 w lo hi E ao n c us ds) {ao':Option Addr} {c' hi':Nat} {u:Value} {d:D} (hown:Own w' lo E ao' (n + 1) c' (us ++ [u])) (hg:w.grownBy w' (bk ao)) (hu:Ow1 w' u d) (hur:In lo hi' u)
  (hao:∀g,bk ao'=some g→g < hi') (hhi:hi≤hi') (hnew:∀g,bk ao'=some g→(bk ao=some g∨∀(j:Nat) (u:Value),us[j]? =some u→u.ownBlock≠some g))
  (hua:∀g,u.ownBlock=some g→bk ao'≠some g∧∀(j:Nat) (v:Value),us[j]? =some v→v.ownBlock≠some g):eT Ow1 w' lo hi' E ao' (n + 1) c' (us ++ [u]) (ds ++ [d]):=by
 have hul:us.length=n:=h.GF
 have split1:∀ {j v},(us ++ [u])[j]? =some v→(us[j]? =some v∧j < n)∨(j=n∧v=u):=by
  intro j v hj
  rw [List.getElem?_append] at hj
  split at hj
  ·exact .inl ⟨hj,ab⟩
  ·rw [hul] at hj
   cases hjn:j - n with
   | zero=>rw [hjn] at hj;simp at hj;exact .inr ⟨ab,hj.symm⟩
   | succ k=>rw [hjn] at hj;simp at hj
 refine { own:=hown,top:=hao,len:=by rw [List.length_append,h.len];rfl,el:= ?_,rng:= ?_,out:= ?_,apart:= ?_ }
 ·intro j v x hv hx
  rcases split1 hv with ⟨h1,hj⟩ | ⟨rfl,rfl⟩
  ·rw [List.getElem?_append_left (by rw [h.len];exact hj)] at hx
   refine I.loc (h.el j v x h1 hx) fun g hgg=>hg.block g (I.lt (h.el j v x h1 hx) g hgg) fun e=>h.out j v g h1 hgg e.symm
  ·rw [List.getElem?_append_right (by rw [h.len];exact Nat.le_refl _),h.len,Nat.sub_self] at hx
   simp at hx;subst hx;exact hu
 ·intro j v hv
  rcases split1 hv with ⟨h1,hj⟩ | ⟨rfl,rfl⟩
  ·exact (h.rng j v h1).mono (Nat.le_refl _) hhi
  ·exact hur
 ·intro j v g hv hgg
  rcases split1 hv with ⟨h1,hj⟩ | ⟨rfl,rfl⟩
  ·intro e
   rcases hnew g e with h2 | h2
   ·exact h.out j v g h1 hgg h2
   ·exact h2 j v h1 hgg
  ·exact (hua g hgg).1
 ·intro i j v v' g hij hv hv' hgg
  rcases split1 hv with ⟨h1,hi1⟩ | ⟨rfl,rfl⟩
  ·rcases split1 hv' with ⟨h2,hj1⟩ | ⟨rfl,rfl⟩
   ·exact h.apart i j v v' g hij h1 h2 hgg
   ·exact fun e=>(hua g e).2 i v h1 hgg
  ·rcases split1 hv' with ⟨h2,hj1⟩ | ⟨rfl,_⟩
   ·exact (hua g hgg).2 j v' h2
   ·exact absurd rfl hij
theorem eT.cell {g0:Nat} (h:eT Ow1 w lo hi E (some ⟨g0,0,none⟩) n c us ds) {j:Nat} {u:Value} (hu:us[j]? =some u):w.cell? ⟨g0,j,none⟩=some u:=by
 have hj:j < n:=by have:=(List.getElem?_eq_some_iff.1 hu).1;rw [h.GF] at this;exact this
 obtain ⟨g',hg,_,_,_,hc,_⟩:=h.own.form ab
 obtain rfl:g0=g':=by injection hg with hg;injection hg
 rw [hc j hj,hu]
end
def aT {α:Type} (zss:List (List α)) (k:Nat):List α:=zss.getD k []
theorem eF {α:Type} {zss:List (List α)} {k:Nat} (h:k < zss.length):aT zss k=zss[k]:=by simp [aT,h]
theorem hU {α:Type} {zss:List (List α)} {k:Nat} {z:List α} (h:zss[k]? =some z):aT zss k=z:=by simp [aT,h]
theorem fM {α:Type} {zss:List (List α)} {k:Nat} (h:k < zss.length):zss.take (k + 1)=zss.take k ++ [aT zss k]:=by rw [List.take_succ_eq_append_getElem h,eF h]
theorem fA {α:Type} {zss:List (List α)} {k:Nat} (h:k < zss.length):aT zss k∈zss:=by rw [eF h];exact List.getElem_mem h
def Co (w:World) (v:Value) (zs:List Int):Prop:=∃ao n c,v= .slice ao n c∧cW w ao n zs
def jV (E:Nat) (w:World) (v:Value) (zs:List Int):Prop:=∃ao n c,v= .slice ao n c∧Own w 0 E ao n c (zs.map (Value.int .i64))
theorem jV.rd {E:Nat} {w:World} {v:Value} {zs:List Int} (h:jV E w v zs):Co w v zs:=by
 obtain ⟨ao,n,c,rfl,ho⟩:=h
 exact ⟨ao,n,c,rfl,ho.ints⟩
theorem cJ (E:Nat):tN (jV E):=
 {loc:=fun {w w' u d} h hs=>by
   obtain ⟨ao,n,c,rfl,ho⟩:=h
   exact ⟨ao,n,c,rfl,ho.same fun g hg=>hs g (by rw [bN];exact hg)⟩,lt:=fun {w u d} h g hg=>by
   obtain ⟨ao,n,c,rfl,ho⟩:=h
   rw [bN] at hg
   exact (ho.lt g hg).2,one:=fun {w u d} h=>by obtain ⟨ao,n,c,rfl,_⟩:=h;rfl }
theorem Co.below {w w':World} {v:Value} {zs:List Int} (h:Co w v zs) (hb:Below w.heap.size w w'):Co w' v zs:=by
 obtain ⟨ao,n,c,rfl,hi⟩:=h
 exact ⟨ao,n,c,rfl,hi.below hb⟩
def ep (w:World) (ao:Option Addr) (n:Nat) (zss:List (List Int)):Prop:=
 zss.length=n∧n≤17592186044416∧(0 < n→∃b off,ao=some ⟨b,off,none⟩∧∀j,j < n→∃u,w.cell? ⟨b,off + j,none⟩=some u∧Co w u (aT zss j))
theorem ep.at_ {w:World} {ao:Option Addr} {n:Nat} {zss:List (List Int)} (h:ep w ao n zss) {k:Nat} (hk:k < n):
  ∃b off a' n' c',ao=some ⟨b,off,none⟩∧w.cell? ⟨b,off + k,none⟩=some (.slice a' n' c')∧cW w a' n' (aT zss k):=by
 obtain ⟨b,off,e,hc⟩:=h.2.2 ab
 obtain ⟨u,h1,a',n',c',rfl,h2⟩:=hc k hk
 exact ⟨b,off,a',n',c',e,h1,h2⟩
theorem ep.below {w w':World} {ao:Option Addr} {n:Nat} {zss:List (List Int)} (h:ep w ao n zss) (hb:Below w.heap.size w w'):ep w' ao n zss:=by
 refine ⟨h.1,h.2.1,fun hn=> ?_⟩
 obtain ⟨b,off,rfl,hc⟩:=h.2.2 hn
 refine ⟨b,off,rfl,fun j hj=> ?_⟩
 obtain ⟨u,h1,h2⟩:=hc j hj
 exact ⟨u,(hb.cell (p:=⟨b,off + j,none⟩) (World.block_lt_of_cell? w _ h1)).trans h1,h2.below hb⟩
theorem eT.fw {E1:Nat} {w:World} {lo hi E:Nat} {ao:Option Addr} {n c:Nat} {us:List Value} {zss:List (List Int)} (h:eT (jV E1) w lo hi E ao n c us zss):ep w ao n zss:=by
 refine ⟨h.len,by have:=h.own.2;omega,fun hn=> ?_⟩
 obtain ⟨g,rfl,_,_,_,_,_⟩:=h.own.form hn
 refine ⟨g,0,rfl,fun j hj=> ?_⟩
 obtain ⟨u,d,hu,hd,h1,_⟩:=h.get hj
 refine ⟨u,by rw [Nat.zero_add];exact h.cell hu, ?_⟩
 rw [hU hd];exact h1.rd
def mN (w:World) (v:Value) (zss:List (List Int)):Prop:=∃ao n c,v= .slice ao n c∧ep w ao n zss
def pP (E1 E:Nat) (w:World) (lo hi:Nat) (v:Value) (zss:List (List Int)):Prop:=∃ao n c us,v= .slice ao n c∧eT (jV E1) w lo hi E ao n c us zss
theorem mN.below {w w':World} {v:Value} {zss:List (List Int)} (h:mN w v zss) (hb:Below w.heap.size w w'):mN w' v zss:=by
 obtain ⟨ao,n,c,rfl,hi⟩:=h
 exact ⟨ao,n,c,rfl,hi.below hb⟩
def ry (E:Nat) (w:World) (lo hi:Nat) (v:Value) (zs:List Int):Prop:=jV E w v zs∧In lo hi v
theorem ry.of {E:Nat} {w:World} {base:Nat} {ao:Option Addr} {n c:Nat} {zs:List Int} (h:Own w base E ao n c (zs.map (Value.int .i64))):ry E w base w.heap.size (.slice ao n c) zs:=
 ⟨⟨ao,n,c,rfl,h.mono (Nat.zero_le _)⟩,nE h.lt⟩
def marks (k:Int) (n:Nat):List Int:=(List.range n).map fun j:Nat=>k + (j:Int)
def lg (zss:List (List Int)):Nat:=(zss.map List.length).sum
theorem yy {zss:List (List Int)} {k:Nat} (h:k < zss.length):lg (zss.take (k + 1))=lg (zss.take k) + (aT zss k).length:=by
 unfold lg;rw [fM h,List.map_append,List.sum_append];simp
theorem sK (zss:List (List Int)) (k:Nat):lg (zss.take k)≤lg zss:=by
 conv=>rhs;rw [←List.take_append_drop k zss]
 unfold lg;rw [List.map_append,List.sum_append];omega
theorem uS {zss:List (List Int)} {k:Nat} (h:k < zss.length):(aT zss k).length≤lg zss:=by
 have h1:=yy h
 have h2:=sK zss (k + 1)
 omega
def sQ (E1 E:Nat) (w:World) (lo hi:Nat) (v:Value) (zss:List (List Int)):Prop:=∃ao n c us,v= .agg #[.slice ao n c]∧eT (jV E1) w lo hi E ao n c us zss
abbrev di:Type:=Int×List (List Int)
def wZ (w:World) (v:Value) (d:di):Prop:=∃ao n c,v= .agg #[.int .i64 d.1, .slice ao n c]∧ep w ao n d.2
def oN (E1 E:Nat) (w:World) (lo hi:Nat) (v:Value) (d:di):Prop:=∃ao n c us,v= .agg #[.int .i64 d.1, .slice ao n c]∧eT (jV E1) w lo hi E ao n c us d.2
theorem oN.rd {E1 E:Nat} {w:World} {lo hi:Nat} {v:Value} {d:di} (h:oN E1 E w lo hi v d):wZ w v d:=by
 obtain ⟨ao,n,c,us,rfl,ho⟩:=h
 exact ⟨ao,n,c,rfl,ho.fw⟩
theorem oN.below {E1 E:Nat} {w w':World} {lo hi:Nat} {v:Value} {d:di} (h:oN E1 E w lo hi v d) (hb:Below w.heap.size w w'):oN E1 E w' lo hi v d:=by
 obtain ⟨ao,n,c,us,rfl,ho⟩:=h
 exact ⟨ao,n,c,us,rfl,ho.below (cJ E1) hb⟩
theorem wZ.below {w w':World} {v:Value} {d:di} (h:wZ w v d) (hb:Below w.heap.size w w'):wZ w' v d:=by
 obtain ⟨ao,n,c,rfl,hi⟩:=h
 exact ⟨ao,n,c,rfl,hi.below hb⟩
theorem bc {w W W':World} (k:Below W.heap.size W W') (h:Below w.heap.size w W):Below w.heap.size w W':=h.trans (k.mono h.size)
theorem db (w:World):Below w.heap.size w w.drew:=(Below.refl _ _).drew
theorem oN.form {E1 E:Nat} {w:World} {lo hi:Nat} {v:Value} {d:di} (h:oN E1 E w lo hi v d):∃ao n c,v= .agg #[.int .i64 d.1, .slice ao n c]:=by
 obtain ⟨ao,n,c,us,rfl,_⟩:=h
 exact ⟨ao,n,c,rfl⟩
theorem below_alloc1 (w:World) (o:Obj):Below w.heap.size w (w.alloc o):=(Below.refl _ _).alloc (Nat.le_refl _) o
theorem below_alloc2 (w:World) (o o':Obj):Below w.heap.size w ((w.alloc o).alloc o'):=(below_alloc1 w o).alloc (by simp) o'
def dQ (w:World) (g:Nat) (t:TypeId) (cs:Array Value):Prop:=w.heap[g]? =some (.cells cs t (0,0))
theorem dQ.lt {w:World} {g:Nat} {t:TypeId} {cs:Array Value} (h:dQ w g t cs):g < w.heap.size:=by
 rcases Nat.lt_or_ge g w.heap.size with hlt | hge
 ·exact hlt
 ·unfold dQ at h;rw [Array.getElem?_eq_none hge] at h;cases h
theorem dQ.cell {w:World} {g:Nat} {t:TypeId} {cs:Array Value} (h:dQ w g t cs) (i:Nat):w.cell? ⟨g,i,none⟩=cs[i]? :=cell_of_row w g i cs t (0,0) h
theorem dQ.frozen {w:World} {g:Nat} {t:TypeId} {cs:Array Value} (h:dQ w g t cs) (i:Nat):w.frozen? ⟨g,i,none⟩=false:=by
 unfold dQ at h;simp [World.frozen?,h]
theorem dQ.new (w:World) (t:TypeId) (cs:Array Value):dQ (w.alloc (.cells cs t)) w.heap.size t cs:=heap_alloc_new w _
theorem bS {w:World} {t:TypeId} {cs:Array Value} {k:Nat} (h:w.heap.size=k):dQ (w.alloc (.cells cs t)) k t cs:=h ▸ dQ.new w t cs
theorem dQ.alloc {w:World} {g:Nat} {t:TypeId} {cs:Array Value} (h:dQ w g t cs) (o:Obj):dQ (w.alloc o) g t cs:=(Below.heap_alloc w o g h.lt).trans h
theorem dQ.fz {w:World} {g:Nat} {t:TypeId} {cs:Array Value} (h:dQ w g t cs) (i:Nat) (u:Value):dQ (w.setCell ⟨g,i,none⟩ u) g t (cs.setIfInBounds i u):=by
 unfold dQ at h ⊢
 simp [World.setCell,Array.getElem?_modify,h]
theorem dQ.wV {w:World} {g:Nat} {t:TypeId} {cs:Array Value} (h:dQ w g t cs) {p:Addr} (hp:g≠p.block) (u:Value):dQ (w.setCell p u) g t cs:=(Below.heap_setCell w p u g hp).trans h
theorem dQ.below {w w':World} {g:Nat} {t:TypeId} {cs:Array Value} {B:Nat} (h:dQ w g t cs) (hb:Below B w w') (hg:g < B):dQ w' g t cs:=(hb.block g hg).trans h
theorem dQ.bm {w w':World} {g:Nat} {t:TypeId} {cs:Array Value} (h:dQ w g t cs) (hb:Below w.heap.size w w'):dQ w' g t cs:=h.below hb h.lt
theorem dQ.drewN {w:World} {g:Nat} {t:TypeId} {cs:Array Value} (h:dQ w g t cs) (m:Nat):dQ (w.drewN m) g t cs:=h
end Go.Proofs.Ytfpcfckocmmcnaa
namespace Go.Proofs.Ytfpcfckocmmcnaa
open Go.RowKit
def Cp (w:World) (ao:Option Addr) (n:Nat) (hi:Nat):Prop:=n≤281474976710656∧(0 < n→∃b off,ao=some ⟨b,off,none⟩∧b < hi∧∀j,j < n→∃x:Nat,x < 256∧w.cell? ⟨b,off + j,none⟩=some (.int .u8 x))
structure Src (w:World) (sb:Nat):Prop where
 box:∃(ao:Option Addr) (n c k h:Nat),dQ w sb 74 #[.slice ao n c, .int .i64 k, .int .u64 h]∧h < 18446744073709551616∧k≤n∧Cp w ao n sb
theorem Cp.only {w w':World} {ao:Option Addr} {n hi:Nat} {lo h2:Nat} (h:Cp w ao n hi) (ho:fH lo h2 w w') (hl:hi≤lo):Cp w' ao n hi:=by
 refine ⟨h.1,fun hn=> ?_⟩
 obtain ⟨b,off,e,hb,hc⟩:=h.2 hn
 refine ⟨b,off,e,hb,fun j hj=> ?_⟩
 obtain ⟨x,hx,hcx⟩:=hc j hj
 exact ⟨x,hx,(World.cell?_of_block (ho.block b (World.block_lt_of_cell? w _ hcx) (.inl ab))).trans hcx⟩
theorem jF (a:Int):∃H:Nat,H < 18446744073709551616∧IntKind.u64.wrap a=(H:Int):=by
 rw [IntKind.wrap_u64]
 exact ⟨(a % 18446744073709551616).toNat,ab,ab⟩
theorem Ie (a:Int):∃X:Nat,X≤16777215∧wrap64 (bits .and .u64 a 16777215)=(X:Int):=by
 refine ⟨(BitVec.ofInt 64 a &&& BitVec.ofInt 64 16777215).toNat, ?_, ?_⟩
 ·rw [BitVec.toNat_and]
  exact Nat.le_trans Nat.and_le_right (by decide)
 ·have h:(BitVec.ofInt 64 a &&& BitVec.ofInt 64 16777215).toNat≤16777215:=by rw [BitVec.toNat_and];exact Nat.le_trans Nat.and_le_right (by decide)
  show wrap64 (IntKind.u64.wrap ((BitVec.ofInt 64 a &&& BitVec.ofInt 64 16777215).toNat:Int))=_
  rw [IntKind.wrap_u64]
  generalize (BitVec.ofInt 64 a &&& BitVec.ofInt 64 16777215).toNat=Y at *
  unfold wrap64
  omega
theorem C2 (w:World) (sb i:Nat) (v:Value) {w':World} (h:w'=w.setCell ⟨sb,i,none⟩ v:=by rfl):fH sb (sb + 1) w w':=by
 subst h
 exact ⟨rfl,rfl,rfl,by simp [World.setCell],fun k hk hd=>Below.heap_setCell _ _ _ _ (by show k≠sb;omega)⟩
theorem fm (sb:Nat) (z:Int) (w:World) (h:Src w sb) (hz: -4611686018427387904≤z∧z≤4611686018427387904):
  Calls Try.prog 22 #[.pointer (some ⟨sb,0,none⟩), .int .i64 z] w fun e w'=>∃r:Nat,e= .returned (.int .i64 r)∧(z < 1→r=0)∧(1≤z→(r:Int) < z)∧Src w' sb∧fH sb (sb + 1) w w':=by
 obtain ⟨ao,n,c,k,hh,hB,h2,h3,h4⟩:=h.box
 have x0:=hB.cell 0
 have x1:=hB.cell 1
 have x2:=hB.cell 2
 have f1:=hB.frozen 1
 have f2:=hB.frozen 2
 simp at x0 x1 x2
 by_cases hz1:z < 1
 ·have e0:decide (z < 1)=true:=by simp [hz1]
  go_enter Try.func22,Try.ntmps22
  go_wp2
  go_ret
  exact ⟨0,rfl,fun _=>rfl,fun h=>by omega,h,fH.refl _ _ _⟩
 ·have e0:decide (z < 1)=false:=by simp;omega
  go_enter Try.func22,Try.ntmps22
  go_wp2_with fail
  obtain ⟨H,hH1,hH2⟩:=jF (IntKind.u64.wrap ((hh:Int) * 6364136223846793005) + 1442695040888963407)
  rw [hH2]
  obtain ⟨X,hX1,hX2⟩:=Ie ((H:Int) / 8589934592)
  rw [hX2]
  have B1:dQ (w.setCell ⟨sb,2,none⟩ (.int .u64 (H:Int))) sb 74 #[.slice ao n c, .int .i64 k, .int .u64 H]:=hB.fz 2 _
  have O1:fH sb (sb + 1) w (w.setCell ⟨sb,2,none⟩ (.int .u64 (H:Int))):=C2 _ _ 2 _
  generalize w.setCell ⟨sb,2,none⟩ (.int .u64 (H:Int))=w1 at *
  have h5:Cp w1 ao n sb:=h4.only O1 (Nat.le_refl _)
  have y0:=B1.cell 0
  have y1:=B1.cell 1
  have g1:=B1.frozen 1
  simp at y0 y1
  clear x0 x1 x2 f1 f2 hH2 hX2 h4 hB
  have hn:=h5.1
  have hzz:(z == 0)=false:=by simp;omega
  have fin:∀(Y k':Nat) (w2:World),Y≤33554432→k'≤n→dQ w2 sb 74 #[.slice ao n c, .int .i64 k', .int .u64 H]→fH sb (sb + 1) w1 w2→∃r:Nat,Ending.returned (Value.int .i64 ((Y:Int) % z))=Ending.returned (.int .i64 r)∧(z < 1→r=0)∧(1≤z→(r:Int) < z)∧Src w2 sb∧fH sb (sb + 1) w w2:=fun Y k' w2 hY hk' hB2 hO2=>by
   have e2:=Int.emod_nonneg (Y:Int) (show z≠0 by omega)
   have e3:=Int.emod_lt_of_pos (Y:Int) (show 0 < z by omega)
   exact ⟨((Y:Int) % z).toNat,by rw [Int.toNat_of_nonneg e2],fun h=>by omega,fun _=>by omega,⟨ao,n,c,k',H,hB2,hH1,hk',h5.only hO2 (Nat.le_refl _)⟩,O1.trans hO2⟩
  by_cases hk:k < n
  ·obtain ⟨b,off,rfl,hb,hc⟩:=h5.2 ab
   obtain ⟨x,hx,hcx⟩:=hc k hk
   go_quiet (fail)
   go_wp2_with fail
   go_quiet (fail)
   go_wp2
   go_ret
   have key:=fin (X + x) (k + 1)
   rw [Int.natCast_add] at key
   exact key _ ab ab (B1.fz 1 (.int .i64 ((k:Int) + 1))) ⟨rfl,rfl,rfl,by simp [World.setCell,World.drewN],fun a ha hd=>Below.heap_setCell w1 ⟨sb,1,none⟩ (.int .i64 ((k:Int) + 1)) a (by show a≠sb;omega)⟩
  ·go_quiet (fail)
   go_wp2
   go_ret
   exact fin X k _ ab h3 (B1.drewN _) ⟨rfl,rfl,rfl,Nat.le_refl _,fun _ _ _=>rfl⟩
theorem Cp.below {w w':World} {ao:Option Addr} {n hi:Nat} (h:Cp w ao n hi) (hb:Below w.heap.size w w'):Cp w' ao n hi:=by
 refine ⟨h.1,fun hn=> ?_⟩
 obtain ⟨b,off,e,hlt,hc⟩:=h.2 hn
 refine ⟨b,off,e,hlt,fun j hj=> ?_⟩
 obtain ⟨x,hx,hcx⟩:=hc j hj
 exact ⟨x,hx,(World.cell?_of_block (hb.block b (World.block_lt_of_cell? w _ hcx))).trans hcx⟩
theorem D3 (ao:Option Addr) (n c:Nat) (w:World) (h:Cp w ao n w.heap.size):
  Calls Try.prog 20 #[.slice ao n c] w fun e w'=>e= .returned (.pointer (some ⟨w.heap.size,0,none⟩))∧Src w' w.heap.size∧w.heap.size < w'.heap.size∧Below w.heap.size w w':=by
 have hn:=h.1
 go_enter Try.func20,Try.ntmps20
 go_wp2
 go_loopw [4] (fun i wr=>∃k hh:Nat,k≤n∧i= .int .i64 k∧hh < 18446744073709551616∧dQ wr w.heap.size 74 #[.slice ao n c, .int .i64 0, .int .u64 hh]∧Below w.heap.size w wr∧w.heap.size < wr.heap.size) (fun i _=>n - (intOf i).toNat)
 case atStart=>exact ⟨0,8191 + n,Nat.zero_le _,rfl,ab,bS rfl,below_alloc1 _ _,by simp⟩
 case round=>
  obtain ⟨k,hh,hk,rfl,hh1,hB,hb,hs⟩:=hrel
  have done:Src wr w.heap.size:=⟨ao,n,c,0,hh,hB,hh1,Nat.zero_le _,h.below hb⟩
  by_cases hlt:k < n
  ·by_cases hl4:k < 4096
   ·obtain ⟨b,off,rfl,hbb,hc⟩:=(h.below hb).2 ab
    obtain ⟨x,hx,hcx⟩:=hc k hlt
    have x2:=hB.cell 2
    have f2:=hB.frozen 2
    simp at x2
    obtain ⟨A,hA1,hA2⟩:=jF ((hh:Int) * 1099511628211)
    obtain ⟨C,hC1,hC2⟩:=jF ((A:Int) + x)
    obtain ⟨D,hD1,hD2⟩:=jF ((C:Int) + 11)
    have e1:IntKind.u64.wrap (x:Int)=(x:Int):=by rw [IntKind.wrap_u64];omega
    have HB:=Lib.hid hB
    clear hB hc done h
    go_wp2_with fail
    go_region_law (fail)
    all_goals
     have hb2:=hb.setCell (p:=⟨w.heap.size,2,none⟩) (Nat.le_refl _) (.int .u64 (D:Int))
     go_wp2
     go_roundw
     case rel=>exact ⟨k + 1,D,ab,by go_num,hD1,HB.out.fz 2 (.int .u64 (D:Int)),⟨hb2.os,hb2.tape,hb2.output,hb2.size,hb2.block⟩,by simpa [World.setCell] using hs⟩
     case measure=>simp [intOf];omega
   ·go_wp2
    go_ret
    exact ⟨rfl,done,hs,hb⟩
  ·obtain rfl:k=n:=by omega
   go_wp2
   go_ret
   exact ⟨rfl,done,hs,hb⟩
end Go.Proofs.Ytfpcfckocmmcnaa
namespace Go.Proofs.Ytfpcfckocmmcnaa
open Go.ChangeShapes Go.WideShapes Go.ChangeAt Go.RowKit Go.Deep
section
variable {H:Type} {enc:TypeId×Value→H} {P:Program}
theorem Iz {W:World} {base:Nat} {t e:TypeId} {v:Value} {d:DataW H} {p:List MemPlace} (ht:P.underlying t=some (.slice e)) (he:P.underlying e=some (.int .u8)) (hc:P.cellsOf e=1) (hby:P.bytesOf e=1)
  (hv:Value.okWide P W .any base t v) (h:DataW.Trod enc P W 0 (fun _=>true) true t v d p) (hs:∀elems spare,d= .slice elems spare→(elems.length + spare.length) * P.bytesOf e≤reachBytes):
  ∃ao n c,v= .slice ao n c∧Cp W ao n W.heap.size:=by
 obtain ⟨a0,len,cap,rfl⟩:=okWide_slice ht hv
 obtain ⟨fuel,hf⟩:=h
 rcases open_ints ht he hc hf with ⟨hcs,hx⟩ | ⟨a,len',cap',zs,hcs,_,hl,hm,hz,hx,hcell,hwz⟩
 ·simp [Value.cells] at hcs
  obtain ⟨rfl,rfl,rfl⟩:=hcs
  exact ⟨_,_,_,rfl,ab,fun h=>absurd h ab⟩
 ·simp [Value.cells] at hcs
  obtain ⟨rfl,rfl,rfl⟩:=hcs
  simp only [Prod.mk.injEq] at hx
  simp only [if_true] at hz
  have hr:=hs _ _ hx.1
  rw [hby] at hr
  simp only [lits,List.length_map,List.length_take,List.length_drop,reachBytes] at hr
  refine ⟨_,_,_,rfl,ab,fun hn=> ?_⟩
  obtain ⟨b,off,spot⟩:=a
  have hspot:spot=none:=by simpa [Addr.add] using World.cell?_spot (hcell 0 ab)
  subst hspot
  refine ⟨b,off,rfl,World.block_lt_of_cell? W _ (hcell 0 ab),fun j hj=> ?_⟩
  have h1:=hcell j ab
  rw [Addr.add_lit] at h1
  have h2:=hwz (zs.getD j 0) (by rw [List.getD_eq_getElem?_getD,List.getElem?_eq_getElem (show j < zs.length by omega)];exact List.getElem_mem _)
  have h3:=Go.bounds_u8 h2
  exact ⟨(zs.getD j 0).toNat,ab,by rw [h1,Int.toNat_of_nonneg h3.1]⟩
end
end Go.Proofs.Ytfpcfckocmmcnaa
namespace Go.Proofs.Ytfpcfckocmmcnaa
open Go.RowKit
theorem yi:ET Try.prog 24 2 (.int .i64 0) 8:=⟨Try.underlying24,by kernel_rfl,rfl,ab⟩
end Go.Proofs.Ytfpcfckocmmcnaa
namespace Go.Proofs.Ytfpcfckocmmcnaa
open Go.RowKit
theorem jt {lo hi:Nat} {a w w':World} {row:Option Nat} (h:fH lo hi a w) (hg:w.grownBy w' row) (hr:∀g,row=some g→a.heap.size≤g):fH lo hi a w':=
 ⟨hg.os.trans h.os,hg.tape.trans h.tape,hg.output.trans h.output,Nat.le_trans h.size hg.size,fun k hk hd=>(hg.block k (Nat.lt_of_lt_of_le hk h.size) (fun e=>by have:=hr k e.symm;omega)).trans (h.block k hk hd)⟩
theorem Src.grown {w w':World} {sb:Nat} {row:Option Nat} (h:Src w sb) (hg:w.grownBy w' row) (hr:∀g,row=some g→sb < g):Src w' sb:=by
 obtain ⟨ao,n,c,k,hh,h1,h2,h3,h4⟩:=h.box
 have hlt:=h1.lt
 refine ⟨ao,n,c,k,hh,(hg.block sb hlt (fun e=>by have:=hr sb e.symm;omega)).trans h1,h2,h3,h4.1,fun hn=> ?_⟩
 obtain ⟨b,off,e,hb,hc⟩:=h4.2 hn
 refine ⟨b,off,e,hb,fun j hj=> ?_⟩
 obtain ⟨x,hx,hcx⟩:=hc j hj
 exact ⟨x,hx,(World.cell?_of_block (hg.block b (World.block_lt_of_cell? w _ hcx) (fun e=>by have:=hr b e.symm;omega))).trans hcx⟩
def Je (n:Int) (zs:List Int):Prop:=∀z∈zs,0≤z∧z < n
theorem nR (sb:Nat) (letters most:Nat) (w:World) (h:Src w sb) (hsb:sb < w.heap.size) (hl1:1≤letters) (hl:letters≤100) (hm:most≤100):
  Calls Try.prog 24 #[.pointer (some ⟨sb,0,none⟩), .int .i64 letters, .int .i64 most] w fun e w'=>∃(ao:Option Addr) (n c:Nat) (zs:List Int),e= .returned (.slice ao n c)∧n≤most∧Je letters zs∧Own w' w.heap.size 2 ao n c (zs.map (Value.int .i64))∧Src w' sb∧fH sb (sb + 1) w w':=by
 go_enter Try.func24,Try.ntmps24
 have h1:Src (w.alloc (.cells #[] 2)) sb:=h.grown (row:=none) (World.grownBy_alloc w _ none) (fun g hg=>by cases hg)
 go_wp2_with fail
 refine (fm sb _ _ h1 ab).mono ?_
 rintro e w2 ⟨r,rfl, -,r2,s2,o2⟩
 have hr:=r2 ab
 have O2:fH sb (sb + 1) w w2:=(jt (fH.refl sb (sb + 1) w) (World.grownBy_alloc w _ none) (fun g hg=>by cases hg)).trans o2
 have P2:Own w2 w.heap.size 2 (some ⟨w.heap.size,0,none⟩) 0 0 []:=(Own.dD w _ (Nat.le_refl _)).only o2 (lo':=w.heap.size) (hi':=w.heap.size + 1) (fun g hg=>by simp [bk] at hg;omega) (.inr ab)
 have z2:=O2.size
 clear h1 o2 r2
 go_wp2_with fail
 go_loopw [7,8] (fun wv kv wr=>∃(k a:Nat) (ao:Option Addr) (c:Nat) (zs:List Int),kv= .int .i64 k∧wv= .slice ao a c∧a + k=r∧Je letters zs∧Own wr w.heap.size 2 ao a c (zs.map (Value.int .i64))∧Src wr sb∧fH sb (sb + 1) w wr) (fun _ kv _=>(intOf kv).toNat)
 case atStart=>exact ⟨r,0,_,0, [],rfl,rfl,ab,fun _ h=>(by simp at h),P2,s2,O2⟩
 case round=>
  obtain ⟨k,a,ao,c,zs,rfl,rfl,hak,hlow,ho,hs,hO⟩:=hrel
  clear P2 s2 O2 z2
  by_cases hk:0 < k
  ·go_wp2_with fail
   refine (fm sb _ _ hs ab).mono ?_
   rintro e w3 ⟨q,rfl, -,q2,s3,o3⟩
   have hq:=q2 ab
   have hsz:=hO.size
   have O3:=hO.trans o3
   have hsz3:=O3.size
   have P3:Own w3 w.heap.size 2 ao a c (zs.map (Value.int .i64)):=ho.only o3 (lo':=w.heap.size) (hi':=wr.heap.size) (fun g hg=>⟨(ho.lt g hg).1,(ho.lt g hg).2⟩) (.inr ab)
   clear q2 o3 hs hO ho
   have hol:=P3.lt
   have PH:=Lib.hid P3
   clear P3
   go_wp2_with (at_builtin;refine eL yi _ rfl _ _ rfl w.heap.size ao a c _ rfl PH.out (.int .i64 (q:Int)) rfl rfl ab hsz3 ?_;intro ao2 c2 w4 ho2 hg2 hblk)
   have HO:=Lib.hid ho2
   have s4:=s3.grown hg2 (fun g hg=>by have:=(hol g hg).1;omega)
   have O4:=jt O3 hg2 (fun g hg=>(hol g hg).1)
   clear ho2 hblk s3 O3 hg2
   go_wp2
   go_roundw
   case rel=>
    refine ⟨k - 1,a + 1,ao2,c2,zs ++ [(q:Int)],by go_num,rfl,ab,fun z hz=> ?_,by rw [List.map_append];exact HO.out,s4,O4⟩
    rcases List.mem_append.1 hz with hz | hz
    ·exact hlow z hz
    ·simp at hz;omega
   case measure=>simp [intOf];omega
  ·obtain rfl:k=0:=by omega
   go_wp2
   go_ret
   exact ⟨ao,a,c,zs,rfl,ab,hlow,ho,hs,hO⟩
theorem wE (sb:Nat) (ao:Option Addr) (n c:Nat) (zs:List Int) (w:World) (h:Src w sb) (hz:cW w ao n zs) (hn:1≤n) (hn2:n≤100) (hne:bk ao≠some sb):
  Calls Try.prog 49 #[.pointer (some ⟨sb,0,none⟩), .slice ao n c] w fun e w'=>∃r:Nat,r < n∧e= .returned (.int .i64 (aD zs r))∧Src w' sb∧fH sb (sb + 1) w w':=by
 go_enter Try.func49,Try.ntmps49
 go_wp2_with fail
 refine (fm sb _ _ h ab).mono ?_
 rintro e w2 ⟨r,rfl, -,r2,s2,o2⟩
 have hr:=r2 ab
 have hr2:r < n:=by omega
 have hz2:cW w2 ao n zs:=hz.same fun g hg hlt=>o2.block g hlt (by
  have:g≠sb:=fun e=>by subst e;exact hne hg
  omega)
 obtain ⟨b,off,rfl,hc⟩:=hz2.at_ hr2
 clear r2 hz hz2
 go_wp2
 go_ret
 exact ⟨r,hr2,rfl,s2,o2⟩
end Go.Proofs.Ytfpcfckocmmcnaa
namespace Go.Proofs.Ytfpcfckocmmcnaa
open Go.RowKit
theorem qf (ao:Option Addr) (n c:Nat) (zs:List Int) (w:World) (h:cW w ao n zs) (hn:n≤1048576):
  Calls Try.prog 64 #[.slice ao n c] w fun e w'=>∃ao' c',e= .returned (.slice ao' n c')∧Own w' w.heap.size 2 ao' n c' (zs.map (Value.int .i64))∧Below w.heap.size w w':=by
 have h2:cW (w.alloc (.cells #[] 2)) ao n zs:=h.below (below_alloc1 _ _)
 have H2:=Lib.hid h2
 clear h2
 go_enter Try.func64,Try.ntmps64
 go_wp2_with (at_builtin;refine kL yi _ rfl _ _ rfl w.heap.size _ 0 0 [] rfl (Own.dD w _ (Nat.le_refl _)) ao n c zs rfl H2.out ab (by simp) ?_;intro ao2 c2 w2 ho2 hg2 hblk)
 go_ret
 refine ⟨_,_,rfl,by simpa using ho2,(below_alloc1 w _).grown hg2 (by simp) (fun g hg=> ?_)⟩
 simp [bk] at hg;omega
end Go.Proofs.Ytfpcfckocmmcnaa
namespace Go.Proofs.Ytfpcfckocmmcnaa
open Go.RowKit
def kB (n lo hi:Int):Bool:=decide (lo≤n) && decide (n≤hi)
theorem dY {n lo hi:Int} :kB n lo hi=true↔lo≤n∧n≤hi:=by simp [kB]
theorem eK (n lo hi:Int) (w:World):Calls Try.prog 52 #[.int .i64 n, .int .i64 lo, .int .i64 hi] w fun e w'=>e= .returned (.bool (kB n lo hi))∧w'=w:=by
 by_cases h:lo≤n
 ·have h1:decide (lo≤n)=true:=by simpa using h
  go_enter Try.func52,Try.ntmps52
  go_wp2
  go_ret
  exact ⟨cx (by simp [kB,h]),rfl⟩
 ·have h1:decide (lo≤n)=false:=by simpa using h
  have h2:kB n lo hi=false:=by simp [kB,h1]
  have H2:=Lib.hid h2
  clear h2
  go_enter Try.func52,Try.ntmps52
  go_wp2
  go_ret
  exact ⟨cx H2.out.symm,rfl⟩
theorem fa (n lo hi:Int) (w:World):Calls Try.prog 61 #[.int .i64 n, .int .i64 lo, .int .i64 hi] w fun e w'=>e= .returned (.bool (kB n lo hi))∧w'=w:=by
 by_cases h:lo≤n
 ·have h1:decide (lo≤n)=true:=by simpa using h
  go_enter Try.func61,Try.ntmps61
  go_wp2
  go_ret
  exact ⟨cx (by simp [kB,h]),rfl⟩
 ·have h1:decide (lo≤n)=false:=by simpa using h
  have h2:kB n lo hi=false:=by simp [kB,h1]
  have H2:=Lib.hid h2
  clear h2
  go_enter Try.func61,Try.ntmps61
  go_wp2
  go_ret
  exact ⟨cx H2.out.symm,rfl⟩
def qw (p:Int→Bool) (zs:List Int):Int:=match zs.findIdx? p with | some i=>i | none=> -1
theorem rr {p:Int→Bool} {zs:List Int} (h:zs.any p=false):qw p zs= -1:=by
 have:zs.findIdx? p=none:=by rw [List.findIdx?_eq_none_iff];intro x hx;have:=(List.any_eq_false.1 h) x hx;simpa using this
 simp [qw,this]
theorem yN {p:Int→Bool} {zs:List Int} {k:Nat} (hk:k < zs.length) (hn:(zs.take k).any p=false) (hp:p (aD zs k)=true):qw p zs=k:=by
 have:zs.findIdx? p=some k:=by
  rw [List.findIdx?_eq_some_iff_getElem]
  refine ⟨hk,by rw [←cA hk];exact hp,fun j hj=> ?_⟩
  have hx:zs[j]'ab∈zs.take k:=by rw [List.mem_take_iff_getElem];exact ⟨j,ab,rfl⟩
  have:=(List.any_eq_false.1 hn) _ hx
  simpa using this
 simp [qw,this]
theorem BQ (p:Int→Bool) (zs:List Int):decide (0≤qw p zs)=zs.any p:=by
 cases h:zs.any p with
 | false=>rw [rr h];rfl
 | true=>
  rw [decide_eq_true_iff]
  unfold qw
  cases h2:zs.findIdx? p with
  | some i=>exact Int.natCast_nonneg i
  | none=>
   rw [List.findIdx?_eq_none_iff] at h2
   obtain ⟨x,hx,hp⟩:=List.any_eq_true.1 h
   have:=h2 x hx
   simp [hp] at this
theorem sJ (fn:Nat) (cap:Array Value) (p:Int→Bool) (ao:Option Addr) (n c:Nat) (zs:List Int) (w:World) (h:cW w ao n zs)
  (hcf:∀(args:Array Value) (w:World),(callFunc fn args).run Try.prog w= .ok (.enter fn args) w)
  (hf:∀j,j < n→∀w',Below w.heap.size w w'→Calls Try.prog fn (#[.int .i64 (aD zs j)] ++ cap) w' fun e w''=>e= .returned (.bool (p (aD zs j)))∧Below w'.heap.size w' w''):
  Calls Try.prog 81 #[.slice ao n c, .func (.func fn) #[] cap] w fun e w'=>e= .returned (.int .i64 (qw p zs))∧Below w.heap.size w w':=by
 have hn:=h.2.1
 have HF:=Lib.hid hf
 clear hf
 go_enter Try.func81,Try.ntmps81
 go_wp2
 go_loopw [8] (fun i wr=>∃k:Nat,k≤n∧i= .int .i64 k∧(zs.take k).any p=false∧Below w.heap.size w wr) (fun i _=>n - (intOf i).toNat)
 case atStart=>exact ⟨0,Nat.zero_le _,rfl,by simp,Below.refl _ _⟩
 case round=>
  obtain ⟨k,hk,rfl,hpre,hb⟩:=hrel
  have HP:=Lib.hid hpre
  clear hpre
  by_cases hlt:k < n
  ·obtain ⟨b,off,rfl,hc⟩:=(h.below hb).at_ hlt
   have HH:=Lib.hid h
   clear h
   cases hp:p (aD zs k) with
   | true=>
    have HX:=Lib.hid hp
    clear hp
    go_wp2_with fail
    refine (HF.out k hlt _ hb).mono ?_
    rintro e w1 ⟨rfl,hb1⟩
    rw [HX.out]
    go_wp2
    go_ret
    exact ⟨gI (yN (by rw [HH.out.1];exact hlt) HP.out HX.out).symm,hb.trans (hb1.mono hb.size)⟩
   | false=>
    have HX:=Lib.hid hp
    clear hp
    go_wp2_with fail
    refine (HF.out k hlt _ hb).mono ?_
    rintro e w1 ⟨rfl,hb1⟩
    rw [HX.out]
    go_wp2
    go_roundw
    case rel=>exact ⟨k + 1,ab,by go_num,by rw [tg (by rw [HH.out.1];exact hlt),HP.out,HX.out];rfl,hb.trans (hb1.mono hb.size)⟩
    case measure=>simp [intOf];omega
  ·obtain rfl:k=n:=by omega
   have hl:=h.1
   have HL:=Lib.hid hl
   clear hl
   go_wp2
   go_ret
   exact ⟨gI (rr (by have:=HP.out;rwa [List.take_of_length_le (Nat.le_of_eq HL.out)] at this)).symm,hb⟩
theorem j6 (fn:Nat) (cap:Array Value) (p:Int→Bool) (ao:Option Addr) (n c:Nat) (zs:List Int) (w:World) (h:cW w ao n zs)
  (hcf:∀(args:Array Value) (w:World),(callFunc fn args).run Try.prog w= .ok (.enter fn args) w)
  (hf:∀j,j < n→∀w',Below w.heap.size w w'→Calls Try.prog fn (#[.int .i64 (aD zs j)] ++ cap) w' fun e w''=>e= .returned (.bool (p (aD zs j)))∧Below w'.heap.size w' w''):
  Calls Try.prog 50 #[.slice ao n c, .func (.func fn) #[] cap] w fun e w'=>e= .returned (.bool (zs.any p))∧Below w.heap.size w w':=by
 have HF:=Lib.hid hf
 clear hf
 go_enter Try.func50,Try.ntmps50
 go_wp2_with fail
 refine (sJ fn cap p ao n c zs w h hcf HF.out).mono ?_
 rintro e w1 ⟨rfl,hb1⟩
 go_wp2
 go_ret
 exact ⟨cx (BQ p zs),hb1⟩
end Go.Proofs.Ytfpcfckocmmcnaa
namespace Go.Proofs.Ytfpcfckocmmcnaa
open Go.RowKit
def eH (z:Int):Bool:=z == 0 || kB z 2 32
def cK (zs:List Int):Bool:=zs.all eH && decide (zs.length < 5)
theorem vg (ao:Option Addr) (n c:Nat) (zs:List Int) (w:World) (h:cW w ao n zs):
  Calls Try.prog 31 #[.slice ao n c] w fun e w'=>e= .returned (.bool (cK zs))∧w'=w:=by
 have hn:=h.2.1
 go_enter Try.func31,Try.ntmps31
 go_wp2
 go_loop [3] (fun i=>∃k:Nat,k≤n∧i= .int .i64 k∧(zs.take k).all eH=true) (fun i=>n - (intOf i).toNat)
 case atStart=>exact ⟨0,Nat.zero_le _,rfl,by simp⟩
 case round=>
  obtain ⟨k,hk,rfl,hpre⟩:=hrel
  have HP:=Lib.hid hpre
  clear hpre
  by_cases hlt:k < n
  ·obtain ⟨b,off,rfl,hc⟩:=h.at_ hlt
   have hl:=h.1
   have HL:=Lib.hid hl
   clear hl h
   cases hp:eH (aD zs k) with
   | true=>
    have HX:=Lib.hid hp
    by_cases h0:aD zs k=0
    ·have h1:(aD zs k != 0)=false:=by simp [h0]
     clear hp h0
     go_wp2
     go_round
     case rel=>exact ⟨k + 1,ab,by go_num,by rw [j0 (by rw [HL.out];exact hlt),HP.out,HX.out];rfl⟩
     case measure=>simp [intOf];omega
    ·have h1:(aD zs k != 0)=true:=by simp [h0]
     have h2:kB (aD zs k) 2 32=true:=by unfold eH at hp;simpa [h0] using hp
     have H2:=Lib.hid h2
     clear hp h0 h2
     go_wp2_with (go_at_call 61;refine (fa _ _ _ _).mono ?_;rintro e w' ⟨rfl,rfl⟩;rw [H2.out])
     go_round
     case rel=>exact ⟨k + 1,ab,by go_num,by rw [j0 (by rw [HL.out];exact hlt),HP.out,HX.out];rfl⟩
     case measure=>simp [intOf];omega
   | false=>
    have HX:=Lib.hid hp
    have h1:(aD zs k != 0)=true:=by
     rw [bne_iff_ne];intro e;unfold eH at hp;simp [e] at hp
    have h2:kB (aD zs k) 2 32=false:=by unfold eH at hp;simp only [Bool.or_eq_false_iff] at hp;exact hp.2
    have H2:=Lib.hid h2
    clear hp h2
    go_wp2_with (go_at_call 61;refine (fa _ _ _ _).mono ?_;rintro e w' ⟨rfl,rfl⟩;rw [H2.out])
    go_ret
    exact ⟨cx (by unfold cK;rw [nx (by rw [HL.out];exact hlt) HX.out];rfl),rfl⟩
  ·obtain rfl:k=n:=by omega
   have hl:=h.1
   have HL:=Lib.hid hl
   clear hl
   go_wp2
   go_ret
   exact ⟨cx (by have:=HP.out;rw [List.take_of_length_le (Nat.le_of_eq HL.out)] at this;unfold cK;rw [this,HL.out];simp;omega),rfl⟩
theorem pZ (z:Int) (w:World):
  Calls Try.prog 51 #[.int .i64 z] w fun e w'=>e= .returned (.bool (!eH z))∧w'=w:=by
 by_cases h0:z=0
 ·have h1:(z != 0)=false:=by simp [h0]
  have h2:eH z=true:=by simp [eH,h0]
  have H2:=Lib.hid h2
  clear h0 h2
  go_enter Try.func51,Try.ntmps51
  go_wp2
  go_ret
  exact ⟨cx (by rw [H2.out];rfl),rfl⟩
 ·have h1:(z != 0)=true:=by simp [h0]
  have h2:eH z=kB z 2 32:=by simp [eH,h0]
  have H2:=Lib.hid h2
  clear h0 h2
  go_enter Try.func51,Try.ntmps51
  go_wp2_with (go_at_call 52;refine (eK _ _ _ _).mono ?_;rintro e w' ⟨rfl,rfl⟩)
  go_ret
  exact ⟨cx (by rw [H2.out]),rfl⟩
theorem cQ (ao:Option Addr) (n c:Nat) (zs:List Int) (w:World) (h:cW w ao n zs):
  Calls Try.prog 25 #[.slice ao n c] w fun e w'=>e= .returned (.bool (cK zs))∧Below w.heap.size w w':=by
 have hl:=h.1
 have HL:=Lib.hid hl
 clear hl
 have hany:zs.any (fun z=> !eH z)= !(zs.all eH):=by rw [List.any_eq_not_all_not];simp
 have HA:=Lib.hid hany
 clear hany
 by_cases hs:n < 5
 ·have h1:decide ((n:Int) < 5)=true:=by simp;omega
  go_enter Try.func25,Try.ntmps25
  go_wp2_with fail
  refine (j6 51 #[] (fun z=> !eH z) ao n c zs w h (fun _ _=>by rfl) (fun j hj w' hb=>(pZ _ w').mono ?_)).mono ?_
  ·rintro e w1 ⟨rfl,rfl⟩;exact ⟨rfl,Below.refl _ _⟩
  rintro e w1 ⟨rfl,hb⟩
  go_wp2
  go_ret
  exact ⟨cx (by rw [HA.out];unfold cK;rw [HL.out];simp [hs]),hb⟩
 ·have h1:decide ((n:Int) < 5)=false:=by simp;omega
  go_enter Try.func25,Try.ntmps25
  go_wp2
  go_ret
  exact ⟨cx (by unfold cK;rw [HL.out];simp;intro _;omega),Below.refl _ _⟩
end Go.Proofs.Ytfpcfckocmmcnaa
namespace Go.Proofs.Ytfpcfckocmmcnaa
open Go.RowKit
end Go.Proofs.Ytfpcfckocmmcnaa
namespace Go.Proofs.Ytfpcfckocmmcnaa
open Go.RowKit
theorem kH:ET Try.prog 25 24 (.slice none 0 0) 24:=⟨Try.underlying25,by kernel_rfl,rfl,ab⟩
end Go.Proofs.Ytfpcfckocmmcnaa
namespace Go.Proofs.Ytfpcfckocmmcnaa
open Go.RowKit
theorem Src.pV {w w':World} {sb:Nat} (h:Src w sb) (hs:∀g,g≤sb→w'.heap[g]? =w.heap[g]?):Src w' sb:=by
 obtain ⟨ao,n,c,k,hh,h1,h2,h3,h4⟩:=h.box
 refine ⟨ao,n,c,k,hh,(hs sb (Nat.le_refl _)).trans h1,h2,h3,h4.1,fun hn=> ?_⟩
 obtain ⟨b,off,e,hb,hc⟩:=h4.2 hn
 refine ⟨b,off,e,hb,fun j hj=> ?_⟩
 obtain ⟨x,hx,hcx⟩:=hc j hj
 exact ⟨x,hx,(World.cell?_of_block (hs b ab)).trans hcx⟩
theorem Own.rU {w w':World} {base E n c lo hi:Nat} {ao:Option Addr} {xs:List Value} (h:Own w base E ao n c xs) (ho:fH lo hi w w') (hb:hi≤base):Own w' base E ao n c xs:=
 h.same fun g hg=>ho.block g (h.lt g hg).2 (.inr (by have:=(h.lt g hg).1;omega))
theorem fe {w w':World} {lo hi:Nat} (h:Below w.heap.size w w'):fH lo hi w w':=⟨h.os,h.tape,h.output,h.size,fun k hk _=>h.block k hk⟩
def pj (w:World):List Obj→World
 | []=>w
 | o :: r=>pj (w.alloc o) r
theorem kM:∀(os:List Obj) (w:World),Below w.heap.size w (pj w os)
 | [],w=>Below.refl _ _
 | o :: r,w=>(below_alloc1 w o).trans ((kM r (w.alloc o)).mono (by simp))
theorem mU:∀(os:List Obj) (w:World) (j:Nat),j < os.length→(pj w os).heap[w.heap.size + j]? =os[j]?
 | [],w,j,h=>by simp at h
 | o :: r,w,0,h=>by
  rw [pj,Nat.add_zero,(kM r (w.alloc o)).block w.heap.size (by simp)]
  exact heap_alloc_new w o
 | o :: r,w,j + 1,h=>by
  have:=mU r (w.alloc o) j (by simpa using h)
  rw [pj,show w.heap.size + (j + 1)=(w.alloc o).heap.size + j by simp;omega,this]
  simp
def iT (h:Nat) (LL:List (List Int)):List Obj:=
 LL.map (fun zs=>Obj.cells (zs.map (Value.int .i64)).toArray 2) ++ [Obj.cells ((List.range LL.length).map fun j=>Value.slice (some ⟨h + j,0,none⟩) (aT LL j).length (aT LL j).length).toArray 24]
structure zw (w wr:World) (g0:Nat) (LL:List (List Int)):Prop where
 cell:∀j,j < LL.length→wr.cell? ⟨g0,j,none⟩=some (.slice (some ⟨w.heap.size + j,0,none⟩) (aT LL j).length (aT LL j).length)
 row:∀j,j < LL.length→cW wr (some ⟨w.heap.size + j,0,none⟩) (aT LL j).length (aT LL j)
 bel:Below w.heap.size w wr
theorem zS {w W:World} {LL:List (List Int)} (hW:W=pj w (iT w.heap.size LL)) (hs:∀zs∈LL,zs.length≤100):zw w W (w.heap.size + LL.length) LL:=by
 subst hW
 have hl:(iT w.heap.size LL).length=LL.length + 1:=by simp [iT]
 refine ⟨fun j hj=> ?_,fun j hj=> ?_,kM _ _⟩
 ·have h1:=mU (iT w.heap.size LL) w LL.length ab
  have h2:(iT w.heap.size LL)[LL.length]? =some (Obj.cells ((List.range LL.length).map fun j=>Value.slice (some ⟨w.heap.size + j,0,none⟩) (aT LL j).length (aT LL j).length).toArray 24):=by
   unfold iT
   rw [List.getElem?_append_right (by simp)];simp
  rw [h2] at h1
  rw [cell_of_row _ _ _ _ _ (0,0) h1]
  simp [hj]
 ·have h1:=mU (iT w.heap.size LL) w j ab
  have h2:(iT w.heap.size LL)[j]? =some (Obj.cells ((aT LL j).map (Value.int .i64)).toArray 2):=by
   unfold iT
   rw [List.getElem?_append_left (by simpa using hj),List.getElem?_map,List.getElem?_eq_getElem hj,eF hj];rfl
  rw [h2] at h1
  refine ⟨rfl,by have:=hs _ (fA hj);omega,fun _=>⟨_,0,rfl,fun i hi=> ?_⟩⟩
  rw [Nat.zero_add,cell_of_row _ _ _ _ _ (0,0) h1]
  simp [List.getElem?_eq_getElem hi,cA hi]
theorem zw.only {w wr w':World} {g0 sb:Nat} {LL:List (List Int)} (h:zw w wr g0 LL) (hsb:sb < w.heap.size) (hg:w.heap.size≤g0) (ho:fH sb (sb + 1) wr w'):(∀j,j < LL.length→w'.cell? ⟨g0,j,none⟩=some (.slice (some ⟨w.heap.size + j,0,none⟩) (aT LL j).length (aT LL j).length))∧(∀j,j < LL.length→cW w' (some ⟨w.heap.size + j,0,none⟩) (aT LL j).length (aT LL j)):=by
 refine ⟨fun j hj=> ?_,fun j hj=> ?_⟩
 ·have:=h.cell j hj
  rw [World.cell?_of_block (ho.block g0 (World.block_lt_of_cell? _ _ this) (.inr ab))];exact this
 ·exact (h.row j hj).same fun g hg hl=>ho.block g hl (.inr (by simp [bk] at hg;omega))
theorem qZ (w:World) (zs:List Int) (hn:zs.length≤100):cW (w.alloc (.cells (zs.map (Value.int .i64)).toArray 2)) (some ⟨w.heap.size,0,none⟩) zs.length zs:=
 ⟨rfl,ab,fun _=>⟨_,0,rfl,fun j hj=>by
  rw [Nat.zero_add,cell_of_row _ _ _ _ _ (0,0) (heap_alloc_new w _)]
  simp [List.getElem?_eq_getElem hj,cA hj]⟩⟩
theorem tT {P:World→Prop} {w0:World} {Q:World→Prop} (h:Q w0) (k:∀W,Q W→P W):P w0:=k w0 h
def gB:List (List Int):= [[], [3], [4], [5], [3,3], [4,3], [3,4], [5,3], [3,5], [2], [2,3], [3,2], [6,2], [3,3,3], [2,2], [7], [3,2,3], [4,2,3], [3,3,4], [4,3,3], [2,3,3], [3,3,2], [2,2,2,2], [3,2,2]]
def jy:List (List Int):= [[0], [4,4], [3,6], [6,3], [4,3,4], [3,4,3], [3,4,3,3], [3,3,5], [5,3,3], [3,3,3,3], [4,3,3,4], [3,3,3,4], [5,5], [3,7], [0,3], [5,3,3,3], [2,0], [4,4,2], [5,3,2]]
theorem yL {zs:List Int} (h:cK zs=true):zs.length≤4:=by unfold cK at h;rw [Bool.and_eq_true] at h;have:=of_decide_eq_true h.2;omega
def uN (z:Int):Bool:=z == 0 || (decide (2≤z) && decide (z≤6))
def Es (zs:List Int):Prop:=zs∈gB∨zs∈jy∨(zs.length≤3∧zs.all uN=true)
theorem A0 {zs:List Int} {z:Int} (h:zs.all uN=true) (hz:uN z=true):(zs ++ [z]).all uN=true:=by rw [List.all_append,h];simp [hz]
theorem p9 {zs:List Int} (h:Es zs):zs.length≤4:=by
 rcases h with h | h | h
 ·exact (show ∀zs∈gB,zs.length≤4 from by decide) zs h
 ·exact (show ∀zs∈jy,zs.length≤4 from by decide) zs h
 ·omega
def Ge (w:World) (sb:Nat) (e:Ending) (w':World):Prop:=∃(ao:Option Addr) (n c:Nat) (zs:List Int),e= .returned (.slice ao n c)∧Es zs∧Own w' w.heap.size 2 ao n c (zs.map (Value.int .i64))∧Src w' sb∧fH sb (sb + 1) w w'
theorem sH (sb:Nat) (w:World) (h:Src w sb) (hsb:sb < w.heap.size):Calls Try.prog 48 #[.pointer (some ⟨sb,0,none⟩)] w (Ge w sb):=by
 go_enter Try.func48,Try.ntmps48
 go_upto_region 2 with fail
 refine tT (P:=fun W=>Code.wp _ _ _ _ W) (Q:=fun W=>zw w W (w.heap.size + 24) gB) (zS (LL:=gB) rfl (by decide)) fun W hW=> ?_
 have hW:zw w W (w.heap.size + 1 + 1 + 1 + 1 + 1 + 1 + 1 + 1 + 1 + 1 + 1 + 1 + 1 + 1 + 1 + 1 + 1 + 1 + 1 + 1 + 1 + 1 + 1 + 1) gB:=hW
 have hb:=hW.bel
 have hbs:=hb.size
 have h1:Src W sb:=h.pV fun g hg=>hb.block g ab
 have hg0:w.heap.size≤w.heap.size + 1 + 1 + 1 + 1 + 1 + 1 + 1 + 1 + 1 + 1 + 1 + 1 + 1 + 1 + 1 + 1 + 1 + 1 + 1 + 1 + 1 + 1 + 1 + 1:=by omega
 have hgl:w.heap.size + 1 + 1 + 1 + 1 + 1 + 1 + 1 + 1 + 1 + 1 + 1 + 1 + 1 + 1 + 1 + 1 + 1 + 1 + 1 + 1 + 1 + 1 + 1 + 1 < W.heap.size:=World.block_lt_of_cell? _ _ (hW.cell 0 (by decide))
 have hlen:gB.length=24:=rfl
 generalize w.heap.size + 1 + 1 + 1 + 1 + 1 + 1 + 1 + 1 + 1 + 1 + 1 + 1 + 1 + 1 + 1 + 1 + 1 + 1 + 1 + 1 + 1 + 1 + 1 + 1=g0 at *
 have hO0:fH sb (sb + 1) w W:=⟨hb.os,hb.tape,hb.output,hb.size,fun k hk _=>hb.block k hk⟩
 go_wp2_with fail
 refine (fm sb _ _ h1 ab).mono ?_
 rintro e w2 ⟨r,rfl, -,r2,s2,o2⟩
 have hr:=r2 ab
 obtain ⟨c2,i2⟩:=hW.only hsb hg0 o2
 have O2:=hO0.trans o2
 clear r2 hW hb h1 hO0
 have cases6:r=0∨r=1∨(2≤r∧r < 6):=by omega
 rcases cases6 with rfl | rfl | ⟨hr2,hr6⟩
 ·have z2:=O2.size
  clear c2 i2 hlen
  go_upto_region 5 with fail
  refine tT (P:=fun W=>Code.wp _ _ _ _ W) (Q:=fun W=>zw w2 W (w2.heap.size + 19) jy) (zS (LL:=jy) rfl (by decide)) fun W5 hW=> ?_
  have hW:zw w2 W5 (w2.heap.size + 1 + 1 + 1 + 1 + 1 + 1 + 1 + 1 + 1 + 1 + 1 + 1 + 1 + 1 + 1 + 1 + 1 + 1 + 1) jy:=hW
  have hb:=hW.bel
  have hbs5:=hb.size
  have h5:Src W5 sb:=s2.pV fun g hg=>hb.block g ab
  have hg5:w2.heap.size≤w2.heap.size + 1 + 1 + 1 + 1 + 1 + 1 + 1 + 1 + 1 + 1 + 1 + 1 + 1 + 1 + 1 + 1 + 1 + 1 + 1:=by omega
  have hgl5:w2.heap.size + 1 + 1 + 1 + 1 + 1 + 1 + 1 + 1 + 1 + 1 + 1 + 1 + 1 + 1 + 1 + 1 + 1 + 1 + 1 < W5.heap.size:=World.block_lt_of_cell? _ _ (hW.cell 0 (by decide))
  have hlen:jy.length=19:=rfl
  generalize w2.heap.size + 1 + 1 + 1 + 1 + 1 + 1 + 1 + 1 + 1 + 1 + 1 + 1 + 1 + 1 + 1 + 1 + 1 + 1 + 1=g5 at *
  have O5:=O2.trans (fe hb)
  clear hb
  go_wp2_with fail
  refine (fm sb _ _ h5 ab).mono ?_
  rintro e w3 ⟨q,rfl, -,q2,s3,o3⟩
  have hq:=q2 ab
  obtain ⟨c2,i2⟩:=hW.only ab hg5 o3
  have c3:=c2 q ab
  have i3:=i2 q ab
  have hd:Es (aT jy q):= .inr (.inl (fA (zss:=jy) (k:=q) ab))
  have hln:(aT jy q).length≤1048576:=by have:=p9 hd;omega
  have O3:=O5.trans o3
  have s30:=O3.size
  clear q2 c2 i2 o3 O5 O2 s2 hW
  generalize aT jy q=zs at *
  go_wp2_with fail
  refine (qf _ _ _ zs _ i3 hln).mono ?_
  rintro e w4 ⟨a4,c4,rfl,o4,b4⟩
  go_wp2
  go_ret
  exact ⟨_,_,_,zs,rfl,hd,o4.mono s30,s3.pV fun g hg=>b4.block g ab,O3.trans (fe b4)⟩
 ·have z2:=O2.size
  clear c2 i2 hlen
  have s2':Src (w2.alloc (.cells #[] 2)) sb:=s2.pV fun g hg=>Below.heap_alloc w2 _ g ab
  have P2:Own (w2.alloc (.cells #[] 2)) w.heap.size 2 (some ⟨w2.heap.size,0,none⟩) 0 0 []:=Own.dD w2 2 z2
  have O2':fH sb (sb + 1) w (w2.alloc (.cells #[] 2)):=O2.trans (fe (below_alloc1 _ _))
  clear O2 s2
  go_wp2_with fail
  refine (fm sb _ _ s2' ab).mono ?_
  rintro e w3 ⟨m,rfl, -,q2,s3,o3⟩
  have hm:=q2 ab
  have P3:=P2.rU o3 ab
  have O3:=O2'.trans o3
  clear q2 s2' P2 o3 O2'
  go_wp2_with fail
  go_loopw [5,6] (fun ov kv wr=>∃(k a:Nat) (ao:Option Addr) (c:Nat) (zs:List Int),kv= .int .i64 k∧ov= .slice ao a c∧a + k≤3∧zs.all uN=true∧Own wr w.heap.size 2 ao a c (zs.map (Value.int .i64))∧Src wr sb∧fH sb (sb + 1) w wr) (fun _ kv _=>(intOf kv).toNat)
  case atStart=>exact ⟨m,0,_,_, [],rfl,rfl,ab,rfl,P3,s3,O3⟩
  case round=>
   clear P3 s3 O3
   obtain ⟨k,a,ao,c,zs,rfl,rfl,hak,hz,ho,hs,hO⟩:=hrel
   have hsz:=hO.size
   have hol:=ho.lt
   by_cases hk:0 < k
   ·have pick:∀r,r < 7→uN (aD [2,3,3,4,5,6,0] r)=true:=by decide
    have iL:cW (wr.alloc (.cells #[.int .i64 2, .int .i64 3, .int .i64 3, .int .i64 4, .int .i64 5, .int .i64 6, .int .i64 0] 2)) (some ⟨wr.heap.size,0,none⟩) 7 [2,3,3,4,5,6,0]:=qZ wr [2,3,3,4,5,6,0] (by decide)
    have s4:Src (wr.alloc (.cells #[.int .i64 2, .int .i64 3, .int .i64 3, .int .i64 4, .int .i64 5, .int .i64 6, .int .i64 0] 2)) sb:=hs.pV fun g hg=>Below.heap_alloc wr _ g ab
    have P4:=ho.alloc (.cells #[.int .i64 2, .int .i64 3, .int .i64 3, .int .i64 4, .int .i64 5, .int .i64 6, .int .i64 0] 2)
    have O4:=hO.trans (fe (lo:=sb) (hi:=sb + 1) (below_alloc1 wr (.cells #[.int .i64 2, .int .i64 3, .int .i64 3, .int .i64 4, .int .i64 5, .int .i64 6, .int .i64 0] 2)))
    have HP:=Lib.hid pick
    clear pick hs ho hO
    go_wp2_with (first | (go_at_call 49;refine (wE sb _ 7 _ _ _ s4 iL ab ab (by simp [bk];omega)).mono ?_;rintro e w5 ⟨q,hq,rfl,s5,o5⟩;have P5:=Lib.hid (P4.rU o5 ab);have O5:=O4.trans o5;have z5:=O5.size) | (at_builtin;refine eL yi _ rfl _ _ rfl w.heap.size ao a c _ rfl P5.out (.int .i64 (aD [2,3,3,4,5,6,0] q)) rfl rfl ab ab ?_;intro ao2 c2 w6 ho2 hg2 hblk))
    have HO:=Lib.hid ho2
    have s6:=s5.grown hg2 (fun g hg=>by have:=(hol g hg).1;omega)
    have O6:=jt O5 hg2 (fun g hg=>(hol g hg).1)
    have HL:=Lib.hid (A0 hz (HP.out q hq))
    clear ho2 hblk s5 O5 hg2 hz
    generalize aD [2,3,3,4,5,6,0] q=z at *
    go_wp2
    go_roundw
    case rel=>exact ⟨k - 1,a + 1,ao2,c2,zs ++ [z],by go_num,rfl,ab,HL.out,by rw [List.map_append];exact HO.out,s6,O6⟩
    case measure=>simp [intOf];omega
   ·obtain rfl:k=0:=by omega
    have hl:zs.length=a:=by have:=ho.len;simpa using this
    have hdg:Es zs:= .inr (.inr ⟨ab,hz⟩)
    go_wp2
    go_ret
    exact ⟨_,_,_,zs,rfl,hdg,ho,hs,hO⟩
 ·have e0:((r:Int) == 0)=false:=by rw [beq_eq_false_iff_ne];omega
  have e1:((r:Int) == 1)=false:=by rw [beq_eq_false_iff_ne];omega
  go_wp2_with fail
  refine (fm sb _ _ s2 ab).mono ?_
  rintro e w3 ⟨q,rfl, -,q2,s3,o3⟩
  have hq:=q2 ab
  have c3:w3.cell? ⟨g0,q,none⟩=some (.slice (some ⟨w.heap.size + q,0,none⟩) (aT gB q).length (aT gB q).length):=by
   have:=c2 q ab
   rw [World.cell?_of_block (o3.block g0 (World.block_lt_of_cell? _ _ this) (.inr ab))];exact this
  have i3:cW w3 (some ⟨w.heap.size + q,0,none⟩) (aT gB q).length (aT gB q):=(i2 q ab).same fun g hg hl=>o3.block g hl (.inr (by simp [bk] at hg;omega))
  have hd:Es (aT gB q):= .inl (fA (zss:=gB) (k:=q) ab)
  have hln:(aT gB q).length≤1048576:=by have:=p9 hd;omega
  have O3:=O2.trans o3
  have s30:=O3.size
  clear q2 c2 i2 o3 o2 O2 s2
  generalize aT gB q=zs at *
  go_wp2_with fail
  refine (qf _ _ _ zs _ i3 hln).mono ?_
  rintro e w4 ⟨a4,c4,rfl,o4,b4⟩
  go_wp2
  go_ret
  exact ⟨_,_,_,zs,rfl,hd,o4.mono s30,s3.pV fun g hg=>b4.block g ab,O3.trans ⟨b4.os,b4.tape,b4.output,b4.size,fun k hk _=>b4.block k hk⟩⟩
def FV (zs:List Int):Prop:=Es zs∨(∃(ys:List Int) (z:Int),Es ys∧z∈([1, -1,33]:List Int)∧zs=ys ++ [z])∨∃ys:List Int,Es ys∧zs=ys ++ [2,2,2]
def Fv (w:World) (sb:Nat) (e:Ending) (w':World):Prop:=∃(ao:Option Addr) (n c:Nat) (zs:List Int),e= .returned (.slice ao n c)∧FV zs∧Own w' w.heap.size 2 ao n c (zs.map (Value.int .i64))∧Src w' sb∧fH sb (sb + 1) w w'
theorem uL (sb:Nat) (w:World) (h:Src w sb) (hsb:sb < w.heap.size):Calls Try.prog 21 #[.pointer (some ⟨sb,0,none⟩)] w (Fv w sb):=by
 go_enter Try.func21,Try.ntmps21
 go_wp2_with fail
 refine (sH sb _ h hsb).mono ?_
 rintro e w1 ⟨ao,n,c,zs,rfl,hd,o1,s1,O1⟩
 have z1:=O1.size
 have hf:=p9 hd
 have hn:zs.length=n:=by have:=o1.len;simpa using this
 have HD:=Lib.hid hd
 clear hd
 go_wp2_with fail
 refine (fm sb _ _ s1 ab).mono ?_
 rintro e w2 ⟨r,rfl, -, -,s2,o2⟩
 have O2:=O1.trans o2
 have z2:=O2.size
 have P2:=o1.rU o2 ab
 have hol:=P2.lt
 clear o1 s1 O1 o2
 by_cases h0:r=0
 ·have e0:((r:Int) == 0)=true:=by rw [h0];rfl
  have iL:cW (w2.alloc (.cells #[.int .i64 1, .int .i64 (-1), .int .i64 33] 2)) (some ⟨w2.heap.size,0,none⟩) 3 [1, -1,33]:=qZ w2 [1, -1,33] (by decide)
  have s4:Src (w2.alloc (.cells #[.int .i64 1, .int .i64 (-1), .int .i64 33] 2)) sb:=s2.pV fun g hg=>Below.heap_alloc w2 _ g ab
  have P4:=P2.alloc (.cells #[.int .i64 1, .int .i64 (-1), .int .i64 33] 2)
  have O4:=O2.trans (fe (lo:=sb) (hi:=sb + 1) (below_alloc1 w2 (.cells #[.int .i64 1, .int .i64 (-1), .int .i64 33] 2)))
  clear s2 P2 O2 h0
  go_wp2_with (first | (go_at_call 49;refine (wE sb _ 3 _ _ _ s4 iL ab ab (by simp [bk];omega)).mono ?_;rintro e w5 ⟨q,hq,rfl,s5,o5⟩;have P5:=Lib.hid (P4.rU o5 ab);have O5:=O4.trans o5;have z5:=O5.size) | (at_builtin;refine eL yi _ rfl _ _ rfl w.heap.size ao n c _ rfl P5.out (.int .i64 (aD [1, -1,33] q)) rfl rfl ab ab ?_;intro ao2 c2 w6 ho2 hg2 hblk))
  have HO:=Lib.hid ho2
  have s6:=s5.grown hg2 (fun g hg=>by have:=(hol g hg).1;omega)
  have O6:=jt O5 hg2 (fun g hg=>(hol g hg).1)
  clear ho2 hblk s5 O5 hg2
  have HZ:=Lib.hid ((show ∀r,r < 3→aD [1, -1,33] r∈([1, -1,33]:List Int) from by decide) q hq)
  generalize aD [1, -1,33] q=z at *
  go_wp2
  go_ret
  exact ⟨_,_,_,zs ++ [z],rfl, .inr (.inl ⟨zs,z,HD.out,HZ.out,rfl⟩),by rw [List.map_append];exact HO.out,s6,O6⟩
 ·have e0:((r:Int) == 0)=false:=by rw [beq_eq_false_iff_ne];omega
  by_cases h1:r=1
  ·have e1:((r:Int) == 1)=true:=by rw [h1];rfl
   have iL:cW (w2.alloc (.cells #[.int .i64 2, .int .i64 2, .int .i64 2] 2)) (some ⟨w2.heap.size,0,none⟩) 3 [2,2,2]:=qZ w2 [2,2,2] (by decide)
   have P4:=Lib.hid (P2.alloc (.cells #[.int .i64 2, .int .i64 2, .int .i64 2] 2))
   have s4:Src (w2.alloc (.cells #[.int .i64 2, .int .i64 2, .int .i64 2] 2)) sb:=s2.pV fun g hg=>Below.heap_alloc w2 _ g ab
   have O4:=O2.trans (fe (lo:=sb) (hi:=sb + 1) (below_alloc1 w2 (.cells #[.int .i64 2, .int .i64 2, .int .i64 2] 2)))
   have z4:=O4.size
   clear s2 P2 O2 h0 h1
   go_wp2_with (at_builtin;refine kL yi _ rfl _ _ rfl w.heap.size ao n c _ rfl P4.out _ 3 3 _ rfl iL ab z4 ?_;intro ao2 c2 w6 ho2 hg2 hblk)
   have HO:=Lib.hid ho2
   have s6:=s4.grown hg2 (fun g hg=>by have:=(hol g hg).1;omega)
   have O6:=jt O4 hg2 (fun g hg=>(hol g hg).1)
   clear ho2 hblk s4 O4 hg2
   go_wp2
   go_ret
   exact ⟨_,_,_,zs ++ [2,2,2],rfl, .inr (.inr ⟨zs,HD.out,rfl⟩),by rw [List.map_append];exact HO.out,s6,O6⟩
  ·have e1:((r:Int) == 1)=false:=by rw [beq_eq_false_iff_ne];omega
   go_wp2
   go_ret
   exact ⟨_,_,_,zs,rfl, .inl HD.out,P2,s2,O2⟩
end Go.Proofs.Ytfpcfckocmmcnaa
namespace Go.Proofs.Ytfpcfckocmmcnaa
open Go.RowKit
abbrev Nm:=Nat
inductive A1 where
 | val (v:Value)
 | any
 | sl (x:Nm) (off n:Nat)
 | ptr (x:Nm) (off:Nat)
 | esl (x:Nm) (i off n:Nat)
 | eptr (x:Nm) (i off:Nat)
 | clo (f:Fn) (xs:List (Nm×Nat))
inductive A2 where
 | one (a:A1)
 | agg (l:List A1)
inductive AV where
 | s (a:A2)
 | tup (l:List A2)
abbrev o1 (a:A1):AV:= .s (.one a)
abbrev vv (v:Value):AV:= .s (.one (.val v))
structure Hd where
 ao:Option Addr
 c:Nat
 k:Nat
structure Env where
 h:Nm→Option Hd
 r:Nm→Nat→Hd
def Df (h:Hd) (off n:Nat) (u:Value):Prop:=
 ∃ao,u= .slice ao n (h.c - off)∧(off=0→ao=h.ao)∧(0 < off→off < h.c→ao=h.ao.map fun p=>⟨p.block,p.off + off * h.k,none⟩)
def xO (h:Hd) (off:Nat) (u:Value):Prop:=∃b o,h.ao=some ⟨b,o,none⟩∧u= .pointer (some ⟨b,o + off,none⟩)
def dm (η:Env):A1→Value→Prop
 | .val v,u=>u=v
 | .any,u=>u.oneCell'=true
 | .sl x off n,u=>(∃ao c,u= .slice ao n c)∧∀h,η.h x=some h→Df h off n u
 | .ptr x off,u=>(∃p,u= .pointer p)∧∀h,η.h x=some h→xO h off u
 | .esl x i off n,u=>(∃ao c,u= .slice ao n c)∧∀h,η.h x=some h→Df (η.r x i) off n u
 | .eptr x i off,u=>(∃p,u= .pointer p)∧∀h,η.h x=some h→xO (η.r x i) off u
 | .clo f xs,u=>∃us:Array Value,u= .func f #[] us∧us.size=xs.length∧∀(j:Nat) (p:Nm×Nat),xs[j]? =some p→∃q,us[j]? =some q∧(∃p',q= .pointer p')∧∀h,η.h p.1=some h→xO h p.2 q
def gT (η:Env):A2→Value→Prop
 | .one a,u=>dm η a u
 | .agg l,u=>∃us:Array Value,u= .agg us∧us.size=l.length∧∀(j:Nat) (a:A1),l[j]? =some a→∃u',us[j]? =some u'∧dm η a u'
def Den (η:Env):AV→Value→Prop
 | .s a,u=>gT η a u
 | .tup l,u=>∃us:Array Value,u= .tuple us∧us.size=l.length∧∀(j:Nat) (a:A2),l[j]? =some a→∃u',us[j]? =some u'∧gT η a u'
def A1.has (x:Nm):A1→Bool
 | .sl y _ _ | .ptr y _ | .esl y _ _ _ | .eptr y _ _=>Nat.beq x y
 | .clo _ xs=>xs.any fun p=>Nat.beq x p.1
 | .val _ | .any=>false
def A2.has (x:Nm):A2→Bool
 | .one a=>a.has x
 | .agg l=>l.any (A1.has x)
def AV.has (x:Nm):AV→Bool
 | .s a=>a.has x
 | .tup l=>l.any (A2.has x)
def A1.forget (x:Nm) (a:A1):A1:=bif a.has x then .any else a
inductive IM where
 | v (x:Value)
 | r (F:TypeId) (k m:Nat) (vs:List Value)
 | any
inductive fQ where
 | flat (l:List A1)
 | cz (vs:List Value)
 | rows (E:TypeId) (vss:List (List Value)) (dL:List Nat)
 | mix (cs:List IM)
structure Ch where
 own:Bool
 E:TypeId
 k:Nat
 d:fQ
def fQ.len:fQ→Nat
 | .flat l=>l.length
 | .cz vs=>vs.length
 | .rows _ vss _=>vss.length
 | .mix cs=>cs.length
def fQ.forget (x:Nm):fQ→fQ
 | .flat l=> .flat (l.map (A1.forget x))
 | d=>d
def Ch.forget (x:Nm) (c:Ch):Ch:= { c with d:=c.d.forget x }
abbrev bW:=Nat→Option (Nm×Option Nat)
def fj (ω:bW) (w:World) (ow:Nm×Option Nat) (h:Hd) (E:TypeId) (len:Nat) (cell:Nat→Value→Prop):Prop:=
 (h.ao=none∧h.c=0∧len=0)∨
 ∃b o cs,h.ao=some ⟨b,o,none⟩∧ω b=some ow∧w.heap[b]? =some (.cells cs E (0,0))∧(o=0∧cs.size=h.c * h.k)∧len≤h.c * h.k∧h.c≤maxLen∧
  ∀j,j < len→∃u,cs[o + j]? =some u∧cell j u
def DB (ω:bW) (w:World) (h:Hd) (len:Nat) (cell:Nat→Value→Prop):Prop:=
 len≤h.c * h.k∧∀j,j < len→∃b o u,h.ao=some ⟨b,o,none⟩∧ω b=none∧b < w.heap.size∧w.cell? ⟨b,o + j,none⟩=some u∧cell j u
def lQ (own:Bool) (ω:bW) (w:World) (ow:Nm×Option Nat) (h:Hd) (E:TypeId) (len:Nat) (cell:Nat→Value→Prop):Prop:=
 match own with
 | true=>fj ω w ow h E len cell
 | false=>DB ω w h len cell
def pB (η:Env) (ω:bW) (w:World) (own:Bool) (x:Nm) (j:Nat):IM→Value→Prop
 | .v y,u=>u=y
 | .any,_=>True
 | .r F k m vs,u=>vs.length=m * k∧u= .slice (η.r x j).ao m (η.r x j).c∧(η.r x j).k=k∧lQ own ω w (x,some j) (η.r x j) F vs.length fun i u=>vs[i]? =some u
theorem pB.move {η η':Env} {ω ω':bW} {w w':World} {own own':Bool} {x x':Nm} {j:Nat} {c:IM} {u:Value} (hr:η'.r x' j=η.r x j)
  (hv:∀F k m vs,c= .r F k m vs→lQ own ω w (x,some j) (η.r x j) F vs.length (fun i u=>vs[i]? =some u)→lQ own' ω' w' (x',some j) (η.r x j) F vs.length (fun i u=>vs[i]? =some u)) (h:pB η ω w own x j c u):pB η' ω' w' own' x' j c u:=by
 cases c with
 | v y=>exact h
 | any=>trivial
 | r F k m vs=>
  obtain ⟨h0,h1,h2,h3⟩:=h
  unfold pB
  rw [hr]
  exact ⟨h0,h1,h2,hv F k m vs rfl h3⟩
def cR (η:Env) (ω:bW) (w:World) (own:Bool) (x:Nm):fQ→Nat→Value→Prop
 | .flat l,j,u=>∀a,l[j]? =some a→dm η a u
 | .cz vs,j,u=>vs[j]? =some u
 | .rows E vss dL,j,u=>u.oneCell'=true∧(j ∉ dL→∀vs,vss[j]? =some vs→u= .slice (η.r x j).ao vs.length (η.r x j).c∧(η.r x j).k=1∧lQ own ω w (x,some j) (η.r x j) E vs.length fun i u=>vs[i]? =some u)
 | .mix cs,j,u=>u.oneCell'=true∧∀c,cs[j]? =some c→pB η ω w own x j c u
def eD (η:Env) (ω:bW) (w:World) (x:Nm) (h:Hd) (c:Ch):Prop:=h.k=c.k∧lQ c.own ω w (x,none) h c.E c.d.len (cR η ω w c.own x c.d)
def Mem (η:Env) (ω:bW) (w:World) (ch:Nm→Option Ch):Prop:=
 (∀x c,ch x=some c→∃h,η.h x=some h∧eD η ω w x h c)∧(∀x,ch x=none→η.h x=none)
structure Fr (ω:bW) (w:World) (ω':bW) (w':World):Prop where
 os:w'.os=w.os
 tape:w'.tape=w.tape
 output:w'.output=w.output
 size:w.heap.size≤w'.heap.size
 block:∀b,b < w.heap.size→ω b=none→w'.heap[b]? =w.heap[b]? ∧ω' b=none
theorem Fr.refl (ω:bW) (w:World):Fr ω w ω w:=⟨rfl,rfl,rfl,Nat.le_refl _,fun _ _ h=>⟨rfl,h⟩⟩
theorem Fr.trans {ω ω' ω'':bW} {w w' w'':World} (h:Fr ω w ω' w') (k:Fr ω' w' ω'' w''):Fr ω w ω'' w'':=
 ⟨k.os.trans h.os,k.tape.trans h.tape,k.output.trans h.output,Nat.le_trans h.size k.size,fun b hb hn=>
  have h1:=h.block b hb hn
  have h2:=k.block b (Nat.lt_of_lt_of_le hb h.size) h1.2
  ⟨h2.1.trans h1.1,h2.2⟩⟩
structure St where
 sl:Nat→Option AV
 ch:Nm→Option Ch
 ph:Nat→Option AV
structure lI where
 own:bW
 ph:List Value
def St.put (S:St) (t:Nat) (av:AV):St:= { S with sl:=fun t'=>bif Nat.beq t' t then some av else S.sl t' }
def St.G7 (S:St) (t:Option Nat) (av:AV):St:=match t with | some t=>S.put t av | none=>S
def St.new (S:St) (x:Nm) (c:Ch):St:=
 {sl:=fun t=>(S.sl t).bind fun av=>bif av.has x then none else some av,ph:=fun t=>(S.ph t).bind fun av=>bif av.has x then none else some av,ch:=fun y=>bif Nat.beq y x then some c else (S.ch y).map (Ch.forget x) }
def St.set (S:St) (x:Nm) (c:Ch):St:= { S with ch:=fun y=>bif Nat.beq y x then some c else S.ch y }
def St.rm (S:St) (x:Nm):St:= { S with ch:=fun y=>bif Nat.beq y x then none else S.ch y }
structure dV (w0:World) (ω0:lI) (nt:Nat) (S:St) (η:Env) (ω:bW) (a:Act) (w:World):Prop where
 dfr:a.defers= []
 tsz:a.tmps.size=nt
 slots:∀t av,S.sl t=some av→∃u,a.tmps[t]? =some u∧Den η av u
 phs:∀t av,S.ph t=some av→∃u,ω0.ph[t]? =some u∧Den η av u
 mem:Mem η ω w S.ch
 fr:Fr ω0.own w0 ω w
def Sat (w0:World) (ω0:lI) (nt:Nat) (S:St) (a:Act) (w:World):Prop:=∃η ω,dV w0 ω0 nt S η ω a w
section
variable {w0 w:World} {ω0:lI} {ω:bW} {nt:Nat} {S:St} {η:Env} {a:Act}
theorem beq_true {x y:Nat} (h:Nat.beq x y=true):x=y:=Nat.eq_of_beq_eq_true h
theorem dC {x y:Nat} (h:x≠y):Nat.beq x y=false:=by
 cases hb:Nat.beq x y with
 | true=>exact absurd (beq_true hb) h
 | false=>rfl
theorem kU (S:St) (t t':Nat) (av:AV):(S.put t av).sl t'=if t'=t then some av else S.sl t':=by
 unfold St.put
 by_cases h:t'=t
 ·subst h;simp
 ·simp only [dC h,if_neg h,cond_false]
theorem uZ (S:St) (x y:Nm) (c:Ch):(S.set x c).ch y=if y=x then some c else S.ch y:=by
 unfold St.set
 by_cases h:y=x
 ·subst h;simp
 ·simp only [dC h,if_neg h,cond_false]
theorem iI (S:St) (x y:Nm):(S.rm x).ch y=if y=x then none else S.ch y:=by
 unfold St.rm
 by_cases h:y=x
 ·subst h;simp
 ·simp only [dC h,if_neg h,cond_false]
theorem vl (S:St) (x y:Nm) (c:Ch):(S.new x c).ch y=if y=x then some c else (S.ch y).map (Ch.forget x):=by
 unfold St.new
 by_cases h:y=x
 ·subst h;simp
 ·simp only [dC h,if_neg h,cond_false]
theorem CW {S:St} {x:Nm} {c:Ch} {t:Nat} {av:AV} (h:(S.new x c).sl t=some av):S.sl t=some av∧av.has x=false:=by
 unfold St.new at h
 simp only at h
 cases hs:S.sl t with
 | none=>rw [hs] at h;cases h
 | some b=>
  rw [hs] at h
  simp only [Option.bind_some] at h
  cases hb:b.has x with
  | true=>rw [hb] at h;cases h
  | false=>rw [hb] at h;simp at h;subst h;exact ⟨rfl,hb⟩
theorem Cs {S:St} {x:Nm} {c:Ch} {t:Nat} {av:AV} (h:(S.new x c).ph t=some av):S.ph t=some av∧av.has x=false:=by
 unfold St.new at h
 simp only at h
 cases hs:S.ph t with
 | none=>rw [hs] at h;cases h
 | some b=>
  rw [hs] at h
  simp only [Option.bind_some] at h
  cases hb:b.has x with
  | true=>rw [hb] at h;cases h
  | false=>rw [hb] at h;simp at h;subst h;exact ⟨rfl,hb⟩
theorem dV.iP (h:dV w0 ω0 nt S η ω a w) {t:Nat} {av:AV} {u:Value} (ht:t < nt) (hd:Den η av u):dV w0 ω0 nt (S.put t av) η ω (a.put (some t) u) w:=
 {dfr:=h.dfr,tsz:=by simp only [Act.put,Array.size_setIfInBounds];exact h.tsz,mem:=h.mem,fr:=h.fr,phs:=h.phs,slots:=fun t' av' ht'=>by
   rw [kU] at ht'
   simp only [Act.put,Array.getElem?_setIfInBounds,h.tsz]
   by_cases e:t'=t
   ·subst e
    rw [if_pos rfl] at ht'
    obtain rfl:=Option.some.inj ht'
    exact ⟨u,by simp [ht],hd⟩
   ·rw [if_neg e] at ht'
    obtain ⟨u',h1,h2⟩:=h.slots t' av' ht'
    exact ⟨u',by rw [if_neg fun e'=>e e'.symm];exact h1,h2⟩ }
theorem lQ.get {own:Bool} {ow:Nm×Option Nat} {h:Hd} {E:TypeId} {len:Nat} {cell:Nat→Value→Prop} (hv:lQ own ω w ow h E len cell) {j:Nat} (hj:j < len):
  ∃b o u,h.ao=some ⟨b,o,none⟩∧w.cell? ⟨b,o + j,none⟩=some u∧cell j u:=by
 cases own with
 | true=>
  rcases hv with ⟨_,_,h0⟩ | ⟨b,o,cs,h1,_,h2,_,_,_,h3⟩
  ·omega
  ·obtain ⟨u,hu,hc⟩:=h3 j hj
   exact ⟨b,o,u,h1,by rw [cell_of_row w b (o + j) cs E (0,0) h2];exact hu,hc⟩
 | false=>
  obtain ⟨b,o,u,h1,_,_,h2,h3⟩:=hv.2 j hj
  exact ⟨b,o,u,h1,h2,h3⟩
theorem lQ.cap {own:Bool} {ow:Nm×Option Nat} {h:Hd} {E:TypeId} {len:Nat} {cell:Nat→Value→Prop} (hv:lQ own ω w ow h E len cell):len≤h.c * h.k:=by
 cases own with
 | true=>rcases hv with ⟨_,_,h0⟩ | ⟨b,o,cs,h1,_,h2,_,h3,_⟩<;>omega
 | false=>exact hv.1
end
end Go.Proofs.Ytfpcfckocmmcnaa
namespace Go.Proofs.Ytfpcfckocmmcnaa
open Go.RowKit
def A1.mono (η η':Env) (a:A1):Prop:=∀x,a.has x=true→η'.h x=none∨(η'.h x=η.h x∧∀i,η'.r x i=η.r x i)
theorem xi (x:Nat):Nat.beq x x=true:=by simp
theorem dm.mono {η η':Env} {a:A1} {u:Value} (hm:a.mono η η') (h:dm η a u):dm η' a u:=by
 cases a with
 | val v=>exact h
 | any=>exact h
 | sl x off n=>exact ⟨h.1,fun hd he=>(hm x (xi x)).elim (fun e=>by rw [e] at he;cases he) (fun e=>h.2 hd (e.1 ▸ he))⟩
 | ptr x off=>exact ⟨h.1,fun hd he=>(hm x (xi x)).elim (fun e=>by rw [e] at he;cases he) (fun e=>h.2 hd (e.1 ▸ he))⟩
 | esl x i off n=>exact ⟨h.1,fun hd he=>(hm x (xi x)).elim (fun e=>by rw [e] at he;cases he) (fun e=>by rw [e.2 i];exact h.2 hd (e.1 ▸ he))⟩
 | eptr x i off=>exact ⟨h.1,fun hd he=>(hm x (xi x)).elim (fun e=>by rw [e] at he;cases he) (fun e=>by rw [e.2 i];exact h.2 hd (e.1 ▸ he))⟩
 | clo f xs=>
  obtain ⟨us,h1,h2,h3⟩:=h
  refine ⟨us,h1,h2,fun j p hp=> ?_⟩
  obtain ⟨q,hq,hq1,hq2⟩:=h3 j p hp
  refine ⟨q,hq,hq1,fun hd he=> ?_⟩
  have hx:(A1.clo f xs).has p.1=true:=by simp only [A1.has,List.any_eq_true];exact ⟨p,List.mem_of_getElem? hp,xi _⟩
  exact (hm p.1 hx).elim (fun e=>by rw [e] at he;cases he) (fun e=>hq2 hd (e.1 ▸ he))
theorem dm.one {η:Env} {a:A1} {u:Value} (h:dm η a u) (hv:∀v,a= .val v→v.oneCell'=true):u.oneCell'=true:=by
 cases a with
 | val v=>have h:u=v:=h;subst h;exact hv _ rfl
 | any=>exact h
 | sl x off n=>obtain ⟨⟨ao,c,rfl⟩,_⟩:=h;rfl
 | ptr x off=>obtain ⟨⟨ao,rfl⟩,_⟩:=h;rfl
 | esl x i off n=>obtain ⟨⟨ao,c,rfl⟩,_⟩:=h;rfl
 | eptr x i off=>obtain ⟨⟨ao,rfl⟩,_⟩:=h;rfl
 | clo f xs=>obtain ⟨us,rfl,_⟩:=h;rfl
theorem xn {a:A1} {x:Nm} (h:a.has x=true):∀v,a= .val v→v.oneCell'=true:=by rintro v rfl;cases h
theorem dm.forget {η η':Env} {a:A1} {u:Value} {x:Nm} (hm:∀y,y≠x→η'.h y=none∨(η'.h y=η.h y∧∀i,η'.r y i=η.r y i)) (h:dm η a u):dm η' (a.forget x) u:=by
 unfold A1.forget
 cases hx:a.has x with
 | true=>exact h.one (xn hx)
 | false=>exact dm.mono (a:=a) (fun y hy=>hm y fun e=>by rw [e,hx] at hy;cases hy) h
def A2.mono (η η':Env) (a:A2):Prop:=∀x,a.has x=true→η'.h x=none∨(η'.h x=η.h x∧∀i,η'.r x i=η.r x i)
theorem gT.mono {η η':Env} {a:A2} {u:Value} (hm:a.mono η η') (h:gT η a u):gT η' a u:=by
 cases a with
 | one a=>exact dm.mono hm h
 | agg l=>
  obtain ⟨us,h1,h2,h3⟩:=h
  refine ⟨us,h1,h2,fun j a ha=> ?_⟩
  obtain ⟨u',h4,h5⟩:=h3 j a ha
  exact ⟨u',h4,h5.mono fun x hx=>hm x (by simp only [A2.has,List.any_eq_true];exact ⟨a,List.mem_of_getElem? ha,hx⟩)⟩
def AV.mono (η η':Env) (a:AV):Prop:=∀x,a.has x=true→η'.h x=none∨(η'.h x=η.h x∧∀i,η'.r x i=η.r x i)
theorem Den.mono {η η':Env} {a:AV} {u:Value} (hm:a.mono η η') (h:Den η a u):Den η' a u:=by
 cases a with
 | s a=>exact gT.mono hm h
 | tup l=>
  obtain ⟨us,h1,h2,h3⟩:=h
  refine ⟨us,h1,h2,fun j a ha=> ?_⟩
  obtain ⟨u',h4,h5⟩:=h3 j a ha
  exact ⟨u',h4,h5.mono fun x hx=>hm x (by simp only [AV.has,List.any_eq_true];exact ⟨a,List.mem_of_getElem? ha,hx⟩)⟩
section
variable {w0 w w':World} {ω0:lI} {ω ω':bW} {nt:Nat} {S:St} {η η':Env} {a:Act}
def Same (ω:bW) (w:World) (ω':bW) (w':World) (p:Option (Nm×Option Nat)→Prop):Prop:=
 w.heap.size≤w'.heap.size∧∀b,b < w.heap.size→p (ω b)→w'.heap[b]? =w.heap[b]? ∧ω' b=ω b
theorem ff {b:Nat} {o:Obj} (h:w.heap[b]? =some o):b < w.heap.size:=by
 rcases Nat.lt_or_ge b w.heap.size with hlt | hge
 ·exact hlt
 ·rw [Array.getElem?_eq_none hge] at h;cases h
theorem lQ.same {own:Bool} {ow:Nm×Option Nat} {h:Hd} {E:TypeId} {len:Nat} {cell cell':Nat→Value→Prop} {p:Option (Nm×Option Nat)→Prop} (hs:Same ω w ω' w' p) (hp:p none) (hp':p (some ow))
  (hc:∀j u,cell j u→cell' j u) (hv:lQ own ω w ow h E len cell):lQ own ω' w' ow h E len cell':=by
 cases own with
 | true=>
  rcases hv with h0 | ⟨b,o,cs,h1,h2,h3,h4,h5,h6,h7⟩
  ·exact .inl h0
  ·have hb:=hs.2 b (ff h3) (by rw [h2];exact hp')
   refine .inr ⟨b,o,cs,h1,hb.2.trans h2,hb.1.trans h3,h4,h5,h6,fun j hj=> ?_⟩
   obtain ⟨u,hu,hcu⟩:=h7 j hj
   exact ⟨u,hu,hc j u hcu⟩
 | false=>
  refine ⟨hv.1,fun j hj=> ?_⟩
  obtain ⟨b,o,u,h1,h2,h3,h4,h5⟩:=hv.2 j hj
  have hb:=hs.2 b h3 (by rw [h2];exact hp)
  exact ⟨b,o,u,h1,hb.2.trans h2,Nat.lt_of_lt_of_le h3 hs.1,(World.cell?_of_block hb.1).trans h4,hc j u h5⟩
theorem eD.same {x:Nm} {h:Hd} {c:Ch} {p:Option (Nm×Option Nat)→Prop} (hs:Same ω w ω' w' p) (hp:p none) (hp':∀i,p (some (x,i))) (hr:∀i,η'.r x i=η.r x i)
  (hm:∀l,c.d= .flat l→∀a∈l,a.mono η η') (hc:eD η ω w x h c):eD η' ω' w' x h c:=by
 refine ⟨hc.1,hc.2.same hs hp (hp' none) fun j u hu=> ?_⟩
 cases hd:c.d with
 | flat l=>rw [hd] at hu;exact fun a ha=>(hu a ha).mono (hm l hd a (List.mem_of_getElem? ha))
 | cz vs=>rw [hd] at hu;exact hu
 | rows E vss dL=>
  rw [hd] at hu
  refine ⟨hu.1,fun hj vs hvs=> ?_⟩
  obtain ⟨h1,h2,h3⟩:=hu.2 hj vs hvs
  rw [hr j]
  exact ⟨h1,h2,h3.same hs hp (hp' (some j)) fun _ _ h=>h⟩
 | mix cs=>rw [hd] at hu;exact ⟨hu.1,fun c hc=>(hu.2 c hc).move (hr j) fun _ _ _ _ _ h3=>h3.same hs hp (hp' (some j)) fun _ _ h=>h⟩
theorem eD.forget {x y:Nm} {h:Hd} {c:Ch} {p:Option (Nm×Option Nat)→Prop} (hs:Same ω w ω' w' p) (hp:p none) (hp':∀i,p (some (x,i))) (hr:∀i,η'.r x i=η.r x i)
  (hm:∀z,z≠y→η'.h z=none∨(η'.h z=η.h z∧∀i,η'.r z i=η.r z i)) (hc:eD η ω w x h c):eD η' ω' w' x h (c.forget y):=by
 refine ⟨hc.1, ?_⟩
 have hl:(c.forget y).d.len=c.d.len:=by unfold Ch.forget fQ.forget;cases c.d<;>simp [fQ.len]
 rw [hl]
 refine hc.2.same hs hp (hp' none) fun j u hu=> ?_
 unfold Ch.forget fQ.forget
 cases hd:c.d with
 | flat l=>
  rw [hd] at hu
  intro a ha
  simp only [List.getElem?_map,Option.map_eq_some_iff] at ha
  obtain ⟨b,hb,rfl⟩:=ha
  exact (hu b hb).forget hm
 | cz vs=>rw [hd] at hu;exact hu
 | rows E vss dL=>
  rw [hd] at hu
  refine ⟨hu.1,fun hj vs hvs=> ?_⟩
  obtain ⟨h1,h2,h3⟩:=hu.2 hj vs hvs
  rw [hr j]
  exact ⟨h1,h2,h3.same hs hp (hp' (some j)) fun _ _ h=>h⟩
 | mix cs=>rw [hd] at hu;exact ⟨hu.1,fun c hc=>(hu.2 c hc).move (hr j) fun _ _ _ _ _ h3=>h3.same hs hp (hp' (some j)) fun _ _ h=>h⟩
def live (S:St) (o:Option (Nm×Option Nat)):Prop:=o=none∨∃y i c,o=some (y,i)∧S.ch y=some c
structure Calm (S:St) (ω:bW) (w:World) (ω':bW) (w':World):Prop where
 os:w'.os=w.os
 tape:w'.tape=w.tape
 output:w'.output=w.output
 same:Same ω w ω' w' (live S)
theorem Calm.fr {ω0:bW} (h:Calm S ω w ω' w') (hf:Fr ω0 w0 ω w):Fr ω0 w0 ω' w':=
 ⟨h.os.trans hf.os,h.tape.trans hf.tape,h.output.trans hf.output,Nat.le_trans hf.size h.same.1,fun b hb hn=>by
  have h1:=hf.block b hb hn
  have h2:=h.same.2 b (Nat.lt_of_lt_of_le hb hf.size) (.inl h1.2)
  exact ⟨h2.1.trans h1.1,h2.2.trans h1.2⟩⟩
def Env.new (η:Env) (x:Nm) (hd:Hd) (r:Nat→Hd):Env:= { h:=fun y=>if y=x then some hd else η.h y,r:=fun y i=>if y=x then r i else η.r y i }
theorem Env.new_ne (η:Env) {x:Nm} (hd:Hd) (r:Nat→Hd) (y:Nm) (h:y≠x):(η.new x hd r).h y=none∨((η.new x hd r).h y=η.h y∧∀i,(η.new x hd r).r y i=η.r y i):=
 .inr ⟨by simp [Env.new,h],fun i=>by simp [Env.new,h]⟩
theorem dV.lay (h:dV w0 ω0 nt S η ω a w) {x:Nm} {c:Ch} {hd:Hd} {r:Nat→Hd} (hk:Calm S ω w ω' w') (hc:eD (η.new x hd r) ω' w' x hd c):dV w0 ω0 nt (S.new x c) (η.new x hd r) ω' a w':=
 {dfr:=h.dfr,tsz:=h.tsz,fr:=hk.fr h.fr,slots:=fun t av ht=>by
   obtain ⟨h1,h2⟩:=CW ht
   obtain ⟨u,h3,h4⟩:=h.slots t av h1
   exact ⟨u,h3,h4.mono fun y hy=>Env.new_ne η hd r y fun e=>by rw [e,h2] at hy;cases hy⟩,phs:=fun t av ht=>by
   obtain ⟨h1,h2⟩:=Cs ht
   obtain ⟨u,h3,h4⟩:=h.phs t av h1
   exact ⟨u,h3,h4.mono fun y hy=>Env.new_ne η hd r y fun e=>by rw [e,h2] at hy;cases hy⟩,mem:=⟨fun y d hy=>by
   rw [vl] at hy
   by_cases e:y=x
   ·subst e
    rw [if_pos rfl] at hy
    obtain rfl:=Option.some.inj hy
    exact ⟨hd,by simp [Env.new],hc⟩
   ·rw [if_neg e,Option.map_eq_some_iff] at hy
    obtain ⟨d',hy',rfl⟩:=hy
    obtain ⟨h',e1,e2⟩:=h.mem.1 y d' hy'
    exact ⟨h',by simp [Env.new,e,e1],e2.forget hk.same (.inl rfl) (fun i=> .inr ⟨y,i,d',rfl,hy'⟩) (fun i=>by simp [Env.new,e]) fun z hz=>Env.new_ne η hd r z hz⟩,
   fun y hy=>by
   rw [vl] at hy
   by_cases e:y=x
   ·rw [if_pos e] at hy;cases hy
   ·rw [if_neg e,Option.map_eq_none_iff] at hy
    simp [Env.new,e,h.mem.2 y hy]⟩ }
def Env.drop (η:Env) (x:Nm):Env:= { η with h:=fun y=>if y=x then none else η.h y }
theorem Env.rq (η:Env) (x y:Nm):(η.drop x).h y=none∨((η.drop x).h y=η.h y∧∀i,(η.drop x).r y i=η.r y i):=by
 by_cases e:y=x
 ·exact .inl (by simp [Env.drop,e])
 ·exact .inr ⟨by simp [Env.drop,e],fun _=>rfl⟩
theorem Same.refl (ω:bW) (w:World) (p:Option (Nm×Option Nat)→Prop):Same ω w ω w p:=⟨Nat.le_refl _,fun _ _ _=>⟨rfl,rfl⟩⟩
theorem Calm.refl (S:St) (ω:bW) (w:World):Calm S ω w ω w:=⟨rfl,rfl,rfl,Same.refl _ _ _⟩
theorem dV.drop (h:dV w0 ω0 nt S η ω a w) (x:Nm):dV w0 ω0 nt (S.rm x) (η.drop x) ω a w:=
 {dfr:=h.dfr,tsz:=h.tsz,fr:=h.fr,slots:=fun t av ht=>by
   obtain ⟨u,h3,h4⟩:=h.slots t av ht
   exact ⟨u,h3,h4.mono fun y _=>Env.rq η x y⟩,phs:=fun t av ht=>by
   obtain ⟨u,h3,h4⟩:=h.phs t av ht
   exact ⟨u,h3,h4.mono fun y _=>Env.rq η x y⟩,mem:=⟨fun y d hy=>by
   rw [iI] at hy
   by_cases e:y=x
   ·rw [if_pos e] at hy;cases hy
   ·rw [if_neg e] at hy
    obtain ⟨h',e1,e2⟩:=h.mem.1 y d hy
    exact ⟨h',by simp [Env.drop,e,e1],eD.same (η:=η) (p:=fun _=>True) (Same.refl _ _ _) trivial (fun _=>trivial) (fun _=>rfl) (fun l _ a _ z _=>Env.rq η x z) e2⟩,
   fun y hy=>by
   rw [iI] at hy
   by_cases e:y=x
   ·simp [Env.drop,e]
   ·rw [if_neg e] at hy
    simp [Env.drop,e,h.mem.2 y hy]⟩ }
theorem dV.write (h:dV w0 ω0 nt S η ω a w) {x:Nm} {c':Ch} {hd:Hd} (he:η.h x=some hd) (hk:Calm (S.rm x) ω w ω' w') (hc:eD η ω' w' x hd c'):
  dV w0 ω0 nt (S.set x c') η ω' a w':=
 {dfr:=h.dfr,tsz:=h.tsz,fr:=hk.fr h.fr,slots:=h.slots,phs:=h.phs,mem:=⟨fun y d hy=>by
   rw [uZ] at hy
   by_cases e:y=x
   ·subst e
    rw [if_pos rfl] at hy
    obtain rfl:=Option.some.inj hy
    exact ⟨hd,he,hc⟩
   ·rw [if_neg e] at hy
    obtain ⟨h',e1,e2⟩:=h.mem.1 y d hy
    exact ⟨h',e1,e2.same hk.same (.inl rfl) (fun i=> .inr ⟨y,i,d,rfl,by rw [iI,if_neg e];exact hy⟩) (fun _=>rfl) fun l _ a _ z _=> .inr ⟨rfl,fun _=>rfl⟩⟩,
   fun y hy=>by
   rw [uZ] at hy
   by_cases e:y=x
   ·rw [if_pos e] at hy;cases hy
   ·rw [if_neg e] at hy;exact h.mem.2 y hy⟩ }
end
end Go.Proofs.Ytfpcfckocmmcnaa
namespace Go.Proofs.Ytfpcfckocmmcnaa
open Go.RowKit
def cv:Value→AV
 | .agg cs=> .s (.agg (cs.toList.map .val))
 | v=>vv v
def St.op (S:St):Operand→Option AV
 | .tmp t=>S.sl t
 | .const v=>some (cv v)
 | .func f=>some (o1 (.clo (.func f) []))
 | .global _=>none
theorem FR (η:Env) (v:Value):Den η (cv v) v:=by
 cases v<;>try exact rfl
 rename_i cs
 refine ⟨cs,rfl,by simp,fun j a ha=> ?_⟩
 simp only [List.getElem?_map,Option.map_eq_some_iff] at ha
 obtain ⟨u,hu,rfl⟩:=ha
 exact ⟨u,by simpa using hu,rfl⟩
structure dx (P:Program) (nt:Nat) (o:Oper) (S S':St):Prop where
 go:∀(w0:World) (ω0:lI) (a:Act) (w:World) (Q:Exit→Act→World→Prop),Sat w0 ω0 nt S a w→o.wp P a w (Sat w0 ω0 nt S') Q
section
variable {P:Program} {nt:Nat} {S S':St} {w0 w:World} {ω0:lI} {ω:bW} {η:Env} {a:Act}
theorem dV.kG (h:dV w0 ω0 nt S η ω a w) {x:Operand} {av:AV} (hx:S.op x=some av):Den η av (a.eval x):=by
 cases x with
 | tmp t=>
  obtain ⟨u,h1,h2⟩:=h.slots t av hx
  have:a.eval (.tmp t)=u:=by simp [Act.eval,h1]
  rw [this];exact h2
 | const v=>obtain rfl:=Option.some.inj hx;exact FR η v
 | func f=>obtain rfl:=Option.some.inj hx;exact ⟨#[],rfl,rfl,fun j p hp=>by simp at hp⟩
 | global g=>cases hx
theorem dV.nY (h:dV w0 ω0 nt S η ω a w) {x:Operand} {v:Value} (hx:S.op x=some (vv v)):a.eval x=v:=h.kG hx
theorem dx.of (o:Oper) (h:∀w0 ω0 η ω a w,dV w0 ω0 nt S η ω a w→∃v w',(execOp a.eval o).run P w= .ok (.value v) w'∧Sat w0 ω0 nt S' (a.put o.dst v) w'):dx P nt o S S':=by
 refine ⟨fun w0 ω0 a w Q ⟨η,ω,hs⟩=> ?_⟩
 obtain ⟨v,w',h1,h2⟩:=h w0 ω0 η ω a w hs
 unfold Oper.wp
 rw [h1]
 exact h2
theorem dx.pure {o:Oper} {t:Nat} {av:AV} (hd:o.dst=some t) (ht:Nat.blt t nt=true) (h:∀w0 ω0 η ω a w,dV w0 ω0 nt S η ω a w→∃v,(execOp a.eval o).run P w= .ok (.value v) w∧Den η av v):dx P nt o S (S.put t av):=by
 refine dx.of o fun w0 ω0 η ω a w hs=> ?_
 obtain ⟨v,h1,h2⟩:=h w0 ω0 η ω a w hs
 exact ⟨v,w,h1,η,ω,by rw [hd];exact hs.iP (by simpa using ht) h2⟩
variable {t:Nat} {ty:TypeId} {ps:String} {af:Array Edge} {gd:Option (Nat×Bool)} {x y:Operand} {av:AV}
theorem an (ht:Nat.blt t nt=true) (hx:S.op x=some av):dx P nt ⟨some t, .move x,ty,ps,af,gd⟩ S (S.put t av):=
 dx.pure rfl ht fun _ _ η _ a _ hs=>⟨a.eval x,by simp [execOp],hs.kG hx⟩
theorem ay (ht:Nat.blt t nt=true) (hx:S.op x=some av):dx P nt ⟨some t, .assign x,ty,ps,af,gd⟩ S (S.put t av):=
 dx.pure rfl ht fun _ _ η _ a _ hs=>⟨a.eval x,by simp [execOp],hs.kG hx⟩
def tc (k:IntKind):BinOp→Int→Int→Option Value
 | .add,m,n=>some (.int k (k.wrap (m + n)))
 | .sub,m,n=>some (.int k (k.wrap (m - n)))
 | .mul,m,n=>some (.int k (k.wrap (m * n)))
 | .eql,m,n=>some (.bool (m == n))
 | .neq,m,n=>some (.bool (m != n))
 | .lss,m,n=>some (.bool (decide (m < n)))
 | .leq,m,n=>some (.bool (decide (m≤n)))
 | .gtr,m,n=>some (.bool (decide (m > n)))
 | .geq,m,n=>some (.bool (decide (m≥n)))
 | _,_,_=>none
theorem bd {op:BinOp} {xt yt:TypeId} {k:IntKind} {m n:Int} {r:Value} (ht:Nat.blt t nt=true) (hx:S.op x=some (vv (.int k m))) (hy:S.op y=some (vv (.int k n))) (hr:tc k op m n=some r):
  dx P nt ⟨some t, .binOp op xt x y yt,ty,ps,af,gd⟩ S (S.put t (vv r)):=
 dx.pure rfl ht fun _ _ η _ a w hs=>by
  refine ⟨r, ?_,rfl⟩
  simp only [execOp,hs.nY hx,hs.nY hy]
  cases op<;>simp only [tc,Option.some.injEq,reduceCtorEq] at hr<;>subst hr<;>simp [eqGuard,binOp,Op.intArith,Op.intCmp]
theorem bG {xt yt:TypeId} {k:IntKind} {m n r:Int} (ht:Nat.blt t nt=true) (hx:S.op x=some (vv (.int k m))) (hy:S.op y=some (vv (.int k n))) (hr:k.wrap (m + n)=r):
  dx P nt ⟨some t, .binOp .add xt x y yt,ty,ps,af,gd⟩ S (S.put t (vv (.int k r))):=hr ▸ bd ht hx hy rfl
theorem kI {xt yt:TypeId} {k:IntKind} {m n r:Int} (ht:Nat.blt t nt=true) (hx:S.op x=some (vv (.int k m))) (hy:S.op y=some (vv (.int k n))) (hr:k.wrap (m - n)=r):
  dx P nt ⟨some t, .binOp .sub xt x y yt,ty,ps,af,gd⟩ S (S.put t (vv (.int k r))):=hr ▸ bd ht hx hy rfl
theorem cP {xt:TypeId} {b:Bool} (ht:Nat.blt t nt=true) (hx:S.op x=some (vv (.bool b))):dx P nt ⟨some t, .unOp .not xt x,ty,ps,af,gd⟩ S (S.put t (vv (.bool !b))):=
 dx.pure rfl ht fun _ _ η _ a w hs=>⟨.bool !b,by simp [execOp,hs.nY hx,Op.unary],rfl⟩
theorem aW {l:List A2} {i:Nat} {a2:A2} (ht:Nat.blt t nt=true) (hx:S.op x=some (.tup l)) (hi:l[i]? =some a2):dx P nt ⟨some t, .extract x i,ty,ps,af,gd⟩ S (S.put t (.s a2)):=
 dx.pure rfl ht fun _ _ η _ a w hs=>by
  obtain ⟨us,h1,h2,h3⟩:=hs.kG hx
  obtain ⟨u,h4,h5⟩:=h3 i a2 hi
  exact ⟨u,by simp [execOp,h1,Instr.extract,h4],h5⟩
theorem dV.chunk (h:dV w0 ω0 nt S η ω a w) {x:Nm} {c:Ch} (hx:S.ch x=some c):∃hd,η.h x=some hd∧hd.k=c.k∧lQ c.own ω w (x,none) hd c.E c.d.len (cR η ω w c.own x c.d):=
 have ⟨hd,h1,h2,h3⟩:=h.mem.1 x c hx
 ⟨hd,h1,h2,h3⟩
theorem bH {n:Nm} {i:Nat} {c:Ch} (ht:Nat.blt t nt=true) (hx:S.op x=some (o1 (.ptr n i))) (hc:S.ch n=some c):dx P nt ⟨some t, .nilCheck x,ty,ps,af,gd⟩ S (S.put t (o1 (.ptr n i))):=
 dx.pure rfl ht fun _ _ η _ a w hs=>by
  obtain ⟨hd,h1,_⟩:=hs.chunk hc
  have hd1:dm η (.ptr n i) (a.eval x):=hs.kG hx
  obtain ⟨b,o,e1,e2⟩:=hd1.2 hd h1
  exact ⟨a.eval x,by simp [execOp,e2],hd1⟩
def qJ (P:Program) (T:TypeId) (f d:Nat):Bool:=
 match P.underlying T with
 | some (.struct fs)=>match fs[f]? with
  | some fd=>fd.offset == d && (match P.info? fd.type with | some i=>i.size != 0 | none=>false)
  | none=>false
 | _=>false
theorem vh {T:TypeId} {f d:Nat} (h:qJ P T f d=true) (b o:Nat) (w:World):(Instr.fieldAt T (.pointer (some ⟨b,o,none⟩)) f).run P w= .ok (.pointer (some ⟨b,o + d,none⟩)) w:=by
 unfold qJ at h
 split at h
 ·rename_i fs hfs
  split at h
  ·rename_i fd hfd
   simp only [Bool.and_eq_true,beq_iff_eq] at h
   obtain ⟨h1,h2⟩:=h
   split at h2
   ·rename_i i hi
    have h3:i.size≠0:=by simpa using h2
    subst h1
    simp [Instr.fieldAt,run_underlying hfs,hfd,Instr.sureAddr,fieldPlace,sizeOf,typeInfo,hi,h3,Addr.add_lit]
   ·cases h2
  ·cases h
 ·cases h
theorem aB {T:TypeId} {f d:Nat} {n:Nm} {i:Nat} {c:Ch} (ht:Nat.blt t nt=true) (hx:S.op x=some (o1 (.ptr n i))) (hc:S.ch n=some c) (hf:qJ P T f d=true):
  dx P nt ⟨some t, .fieldAddr T x f,ty,ps,af,gd⟩ S (S.put t (o1 (.ptr n (i + d)))):=
 dx.pure rfl ht fun _ _ η _ a w hs=>by
  obtain ⟨hd,h1,_⟩:=hs.chunk hc
  have hd1:dm η (.ptr n i) (a.eval x):=hs.kG hx
  obtain ⟨b,o,e1,e2⟩:=hd1.2 hd h1
  refine ⟨.pointer (some ⟨b,o + i + d,none⟩),by simp [execOp,e2,vh hf],⟨_,rfl⟩,fun hd' he=> ?_⟩
  rw [h1] at he;obtain rfl:=Option.some.inj he
  exact ⟨b,o,e1,by rw [Nat.add_assoc]⟩
def sG (P:Program) (T:TypeId):Bool:=
 match P.underlying T with
 | some (.struct _) | some (.array _ _) | none=>false
 | _=>true
theorem vN {T:TypeId} (h:sG P T=true) (w:World):(isAgg T).run P w= .ok false w:=by
 unfold sG at h
 cases hu:P.underlying T with
 | none=>rw [hu] at h;cases h
 | some d=>rw [hu] at h;cases d<;>first | (cases h;done) | simp [isAgg,run_underlying hu]
theorem tW {T:TypeId} (h:sG P T=true) {p:Addr} {w:World} {u:Value} (hc:w.cell? p=some u):(Instr.loadAt T (.pointer (some p))).run P w= .ok u w:=by
 simp [Instr.loadAt,Instr.sureAddr,loadVar,vN h,hc]
def fQ.at_ (x:Nm):fQ→Nat→Option A1
 | .flat l,j=>l[j]?
 | .cz vs,j=>vs[j]?.map .val
 | .rows _ vss dL,j=>if dL.contains j then none else vss[j]?.map fun vs=> .esl x j 0 vs.length
 | .mix cs,j=>match cs[j]? with
  | some (.v y)=>some (.val y)
  | some (.r _ _ m _)=>some (.esl x j 0 m)
  | some .any=>some .any
  | none=>none
theorem DG {x:Nm} {own:Bool} {d:fQ} {j:Nat} {u:Value} {b:A1} (hu:cR η ω w own x d j u) (hb:d.at_ x j=some b):dm η b u:=by
 cases d with
 | flat l=>exact hu b hb
 | cz vs=>
  have hu:vs[j]? =some u:=hu
  have hb:vs[j]?.map A1.val=some b:=hb
  rw [hu] at hb;simp at hb;subst hb;exact rfl
 | rows E vss dL=>
  have hb:(if dL.contains j then none else vss[j]?.map fun vs=>A1.esl x j 0 vs.length)=some b:=hb
  split at hb
  ·cases hb
  ·rename_i hh
   rw [Option.map_eq_some_iff] at hb
   obtain ⟨vs,hvs,rfl⟩:=hb
   obtain ⟨rfl,h2,_⟩:=hu.2 (by simpa using hh) vs hvs
   exact ⟨⟨_,_,rfl⟩,fun hd _=>⟨_,rfl,fun _=>rfl,fun h=>absurd h ab⟩⟩
 | mix cs=>
  simp only [fQ.at_] at hb
  cases hc:cs[j]? with
  | none=>rw [hc] at hb;cases hb
  | some c=>
   rw [hc] at hb
   have hk:=hu.2 c hc
   cases c with
   | v y=>obtain rfl:=Option.some.inj hb;exact hk
   | any=>obtain rfl:=Option.some.inj hb;exact hu.1
   | r F k m vs=>
    obtain rfl:=Option.some.inj hb
    obtain ⟨_,rfl,_,_⟩:=hk
    exact ⟨⟨_,_,rfl⟩,fun hd _=>⟨_,rfl,fun _=>rfl,fun h=>absurd h ab⟩⟩
theorem fQ.mB {x:Nm} {d:fQ} {j:Nat} {b:A1} (h:d.at_ x j=some b):j < d.len:=by
 cases d with
 | flat l=>exact (List.getElem?_eq_some_iff.1 h).1
 | cz vs=>
  have h:vs[j]?.map A1.val=some b:=h
  rw [Option.map_eq_some_iff] at h
  obtain ⟨v,hv,_⟩:=h
  exact (List.getElem?_eq_some_iff.1 hv).1
 | rows E vss dL=>
  have h:(if dL.contains j then none else vss[j]?.map fun vs=>A1.esl x j 0 vs.length)=some b:=h
  split at h
  ·cases h
  ·rw [Option.map_eq_some_iff] at h
   obtain ⟨vs,hvs,rfl⟩:=h
   exact (List.getElem?_eq_some_iff.1 hvs).1
 | mix cs=>
  simp only [fQ.at_] at h
  cases hc:cs[j]? with
  | none=>rw [hc] at h;cases h
  | some c=>exact (List.getElem?_eq_some_iff.1 hc).1
theorem si {T:TypeId} {n:Nm} {i:Nat} {c:Ch} {b:A1} (ht:Nat.blt t nt=true) (hT:sG P T=true) (hx:S.op x=some (o1 (.ptr n i))) (hc:S.ch n=some c) (hb:c.d.at_ n i=some b):
  dx P nt ⟨some t, .load T x,ty,ps,af,gd⟩ S (S.put t (o1 b)):=
 dx.pure rfl ht fun _ _ η _ a w hs=>by
  obtain ⟨hd,h1,_,h3⟩:=hs.chunk hc
  have hd1:dm η (.ptr n i) (a.eval x):=hs.kG hx
  obtain ⟨bb,o,e1,e2⟩:=hd1.2 hd h1
  obtain ⟨b',o',u,f1,f2,f3⟩:=h3.get (fQ.mB hb)
  rw [e1] at f1;injection f1 with f1;injection f1 with f1 f1';subst f1 f1'
  exact ⟨u,by simp [execOp,e2,tW hT f2],DG f3 hb⟩
theorem A6 {T:TypeId} {n:Nm} {i j:Nat} {c:Ch} {E:TypeId} {vss:List (List Value)} {dL:List Nat} {vs:List Value} {v:Value} (ht:Nat.blt t nt=true) (hT:sG P T=true) (hx:S.op x=some (o1 (.eptr n i j))) (hc:S.ch n=some c)
  (hd:c.d= .rows E vss dL) (hh:i ∉ dL) (hi:vss[i]? =some vs) (hj:vs[j]? =some v):dx P nt ⟨some t, .load T x,ty,ps,af,gd⟩ S (S.put t (vv v)):=
 dx.pure rfl ht fun _ _ η ω a w hs=>by
  obtain ⟨hq,h1,_,h3⟩:=hs.chunk hc
  have hd1:dm η (.eptr n i j) (a.eval x):=hs.kG hx
  obtain ⟨bb,o,e1,e2⟩:=hd1.2 hq h1
  rw [hd] at h3
  obtain ⟨b',o',u,f1,f2,f3⟩:=h3.get (j:=i) (List.getElem?_eq_some_iff.1 hi).1
  obtain ⟨_,_,g3⟩:=f3.2 hh vs hi
  obtain ⟨b'',o'',u',k1,k2,k3⟩:=g3.get (j:=j) (List.getElem?_eq_some_iff.1 hj).1
  rw [e1] at k1;injection k1 with k1;injection k1 with k1 k1';subst k1 k1'
  rw [hj] at k3
  obtain rfl:=Option.some.inj k3
  exact ⟨v,by simp [execOp,e2,tW hT k2],rfl⟩
def lR (P:Program) (T:TypeId) (k:Nat):Bool:=
 match P.underlying T with
 | some (.slice e)=>match P.info? e with
  | some i=>i.size == k
  | none=>false
 | _=>false
theorem m8 {T:TypeId} {k:Nat} (h:lR P T k=true):∃e i,P.underlying T=some (.slice e)∧P.info? e=some i∧i.size=k:=by
 unfold lR at h
 split at h
 ·rename_i e he
  split at h
  ·rename_i i hi
   exact ⟨e,i,he,hi,by simpa using h⟩
  ·cases h
 ·cases h
theorem mx {T:TypeId} {k:Nat} (h:lR P T k=true) {b o n c j:Nat} (hj:j < n) {ki:IntKind} {i:Int} (hi:i=(j:Int)) (w:World):
  (Instr.indexAt T (.slice (some ⟨b,o,none⟩) n c) (.int ki i)).run P w= .ok (.pointer (some ⟨b,o + j * k,none⟩)) w:=by
 obtain ⟨e,inf,h1,h2,rfl⟩:=m8 h
 subst hi
 have hj':((j:Int) < (n:Int)):=by omega
 have h0:(0:Int)≤(j:Int):=by omega
 simp [Instr.indexAt,asIntOf,run_underlying h1,hj,sizeOf,typeInfo,h2,Addr.add_lit]
theorem eu {T:TypeId} {n:Nm} {off len j k:Nat} {c:Ch} {ki:IntKind} {i:Int} (ht:Nat.blt t nt=true) (hx:S.op x=some (o1 (.sl n off len))) (hy:S.op y=some (vv (.int ki i))) (hc:S.ch n=some c) (hk:c.k=k) (hT:lR P T k=true)
  (hi:i=(j:Int)) (hj:j < len) (hl:(off + len) * k≤c.d.len) (hk0:0 < k):dx P nt ⟨some t, .indexAddr T x y,ty,ps,af,gd⟩ S (S.put t (o1 (.ptr n ((off + j) * k)))):=
 dx.pure rfl ht fun _ _ η _ a w hs=>by
  obtain ⟨hd,h1,h2,h3⟩:=hs.chunk hc
  have hd1:dm η (.sl n off len) (a.eval x):=hs.kG hx
  obtain ⟨ao,e1,e2,e3⟩:=hd1.2 hd h1
  have hl0:0 < c.d.len:=Nat.lt_of_lt_of_le (Nat.mul_pos ab hk0) hl
  obtain ⟨b',o',u,f1,f2,f3⟩:=h3.get hl0
  have hao:ao=some ⟨b',o' + off * k,none⟩:=by
   rcases Nat.eq_zero_or_pos off with h0 | h0
   ·rw [e2 h0,f1,h0];simp
   ·rw [e3 h0 ?_,f1]
    ·simp [h2,hk]
    ·have hcap:=h3.cap
     rw [h2,hk] at hcap
     have h5:(off + len) * k≤hd.c * k:=Nat.le_trans hl hcap
     have:=Nat.le_of_mul_le_mul_right h5 hk0
     omega
  subst hao
  refine ⟨.pointer (some ⟨b',o' + off * k + j * k,none⟩),by simp only [execOp,e1,hs.nY hy];simp [mx hT hj hi],⟨_,rfl⟩,fun hd' he=> ?_⟩
  rw [h1] at he;obtain rfl:=Option.some.inj he
  exact ⟨b',o',f1,by rw [Nat.add_mul,Nat.add_assoc]⟩
end
end Go.Proofs.Ytfpcfckocmmcnaa
namespace Go.Proofs.Ytfpcfckocmmcnaa
open Go.RowKit
section
variable {P:Program} {nt:Nat} {S S':St} {w0 w:World} {ω0:lI} {ω:bW} {η:Env} {a:Act}
variable {t:Nat} {ty:TypeId} {ps:String} {af:Array Edge} {gd:Option (Nat×Bool)} {x y:Operand} {av:AV}
theorem qK {T:TypeId} {n:Nm} {i0 off len j:Nat} {c:Ch} {E:TypeId} {vss:List (List Value)} {dL:List Nat} {vs:List Value} {ki:IntKind} {i:Int} (ht:Nat.blt t nt=true) (hx:S.op x=some (o1 (.esl n i0 off len)))
  (hy:S.op y=some (vv (.int ki i))) (hc:S.ch n=some c) (hd:c.d= .rows E vss dL) (hT:lR P T 1=true) (hh:i0 ∉ dL) (hi0:vss[i0]? =some vs) (hi:i=(j:Int)) (hj:j < len) (hl:off + len≤vs.length):
  dx P nt ⟨some t, .indexAddr T x y,ty,ps,af,gd⟩ S (S.put t (o1 (.eptr n i0 (off + j)))):=
 dx.pure rfl ht fun _ _ η _ a w hs=>by
  obtain ⟨hq,h1,h2,h3⟩:=hs.chunk hc
  have hd1:dm η (.esl n i0 off len) (a.eval x):=hs.kG hx
  obtain ⟨ao,e1,e2,e3⟩:=hd1.2 hq h1
  rw [hd] at h3
  obtain ⟨_,_,_,_,_,f3⟩:=h3.get (j:=i0) (List.getElem?_eq_some_iff.1 hi0).1
  obtain ⟨_,g2,g3⟩:=f3.2 hh vs hi0
  obtain ⟨b',o',u',k1,k2,k3⟩:=g3.get (j:=0) ab
  have hao:ao=some ⟨b',o' + off,none⟩:=by
   rcases Nat.eq_zero_or_pos off with h0 | h0
   ·rw [e2 h0,k1,h0];simp
   ·rw [e3 h0 ?_,k1]
    ·simp [g2]
    ·have hcap:=g3.cap
     rw [g2] at hcap
     omega
  subst hao
  refine ⟨.pointer (some ⟨b',o' + off + j * 1,none⟩),by simp only [execOp,e1,hs.nY hy];simp [mx hT hj hi],⟨_,rfl⟩,fun hd' he=> ?_⟩
  exact ⟨b',o',k1,by rw [Nat.mul_one,Nat.add_assoc]⟩
def GG (P:Program) (T:TypeId) (n k:Nat):Bool:=
 match P.underlying T with
 | some (.array m e)=>m == n && (match P.info? e with | some i=>i.size == k | none=>false)
 | _=>false
theorem Bg {T:TypeId} {n k:Nat} (h:GG P T n k=true):∃e i,P.underlying T=some (.array n e)∧P.info? e=some i∧i.size=k:=by
 unfold GG at h
 split at h
 ·rename_i m e he
  simp only [Bool.and_eq_true,beq_iff_eq] at h
  obtain ⟨rfl,h⟩:=h
  split at h
  ·rename_i i hi
   exact ⟨e,i,he,hi,by simpa using h⟩
  ·cases h
 ·cases h
theorem dB {T:TypeId} {n:Nm} {off len j k:Nat} {c:Ch} {ki:IntKind} {i:Int} (ht:Nat.blt t nt=true) (hx:S.op x=some (o1 (.ptr n off))) (hy:S.op y=some (vv (.int ki i))) (hc:S.ch n=some c) (hT:GG P T len k=true)
  (hi:i=(j:Int)) (hj:j < len):dx P nt ⟨some t, .indexAddr T x y,ty,ps,af,gd⟩ S (S.put t (o1 (.ptr n (off + j * k)))):=
 dx.pure rfl ht fun _ _ η _ a w hs=>by
  obtain ⟨hd,h1,h2,h3⟩:=hs.chunk hc
  have hd1:dm η (.ptr n off) (a.eval x):=hs.kG hx
  obtain ⟨b,o,e1,e2⟩:=hd1.2 hd h1
  obtain ⟨e,inf,g1,g2,rfl⟩:=Bg hT
  subst hi
  have hj':((j:Int) < (len:Int)):=by omega
  refine ⟨.pointer (some ⟨b,o + off + j * inf.size,none⟩), ?_,⟨_,rfl⟩,fun hd' he=> ?_⟩
  ·simp only [execOp,e2,hs.nY hy]
   simp [Instr.indexAt,asIntOf,run_underlying g1,Instr.sureAddr,hj,sizeOf,typeInfo,g2,Addr.add_lit]
  ·rw [h1] at he;obtain rfl:=Option.some.inj he
   exact ⟨b,o,e1,by rw [Nat.add_assoc]⟩
def sliceB (P:Program) (T:TypeId):Bool:=
 match P.underlying T with
 | some (.slice _)=>true
 | _=>false
theorem xQ {T:TypeId} (h:sliceB P T=true):∃e,P.underlying T=some (.slice e):=by
 unfold sliceB at h
 split at h
 ·exact ⟨_,by assumption⟩
 ·cases h
theorem Ez {T:TypeId} (h:sliceB P T=true) (ao:Option Addr) (n c:Nat) (w:World):(Builtin.len_ #[T] ty #[.slice ao n c]).run P w= .ok (.int .i64 n) w:=by
 obtain ⟨e,he⟩:=xQ h
 simp [Builtin.len_,run_underlying he,goInt]
def A1.len:A1→Option Nat
 | .sl _ _ n=>some n
 | .esl _ _ _ n=>some n
 | .val (.slice _ n _)=>some n
 | _=>none
theorem dm.len_ {b:A1} {n:Nat} {u:Value} (h:dm η b u) (hn:b.len=some n):∃ao c,u= .slice ao n c:=by
 cases b with
 | sl x off m=>obtain rfl:=Option.some.inj hn;exact h.1
 | esl x i off m=>obtain rfl:=Option.some.inj hn;exact h.1
 | val v=>
  have h:u=v:=h
  subst h
  cases u<;>simp [A1.len] at hn
  rename_i ao m c
  subst hn;exact ⟨ao,c,rfl⟩
 | _=>cases hn
theorem bF {T:TypeId} {b:A1} {n:Nat} (ht:Nat.blt t nt=true) (hx:S.op x=some (o1 b)) (hn:b.len=some n) (hT:sliceB P T=true):
  dx P nt ⟨some t, .call { callee:= .builtin .len,args:= #[x],argTypes:= #[T] },ty,ps,af,gd⟩ S (S.put t (vv (.int .i64 n))):=
 dx.pure rfl ht fun _ _ η _ a w hs=>by
  have hd1:dm η b (a.eval x):=hs.kG hx
  obtain ⟨ao,c,e⟩:=hd1.len_ hn
  exact ⟨.int .i64 n,by simp [execOp,resolve,invoke,builtin,e,Ez hT],rfl⟩
theorem EA {k:IntKind} {m n:Int} (w:World) (ts:Array TypeId):(Builtin.min_ ts ty #[.int k m, .int k n]).run P w= .ok (.int k (if n < m then n else m)) w:=by
 simp [Builtin.min_,Builtin.min2]
theorem EN {k:IntKind} {m n:Int} (w:World) (ts:Array TypeId):(Builtin.max_ ts ty #[.int k m, .int k n]).run P w= .ok (.int k (if n > m then n else m)) w:=by
 simp [Builtin.max_,Builtin.max2]
theorem E4 {ts:Array TypeId} {k:IntKind} {m n:Int} (ht:Nat.blt t nt=true) (hx:S.op x=some (vv (.int k m))) (hy:S.op y=some (vv (.int k n))):
  dx P nt ⟨some t, .call { callee:= .builtin .min,args:= #[x,y],argTypes:=ts },ty,ps,af,gd⟩ S (S.put t (vv (.int k (if n < m then n else m)))):=
 dx.pure rfl ht fun _ _ η _ a w hs=>⟨_,by simp [execOp,resolve,invoke,builtin,hs.nY hx,hs.nY hy,EA],rfl⟩
theorem Ec {ts:Array TypeId} {k:IntKind} {m n:Int} (ht:Nat.blt t nt=true) (hx:S.op x=some (vv (.int k m))) (hy:S.op y=some (vv (.int k n))):
  dx P nt ⟨some t, .call { callee:= .builtin .max,args:= #[x,y],argTypes:=ts },ty,ps,af,gd⟩ S (S.put t (vv (.int k (if n > m then n else m)))):=
 dx.pure rfl ht fun _ _ η _ a w hs=>⟨_,by simp [execOp,resolve,invoke,builtin,hs.nY hx,hs.nY hy,EN],rfl⟩
def Hb (S:St) (z:Option Operand) (dflt l:Nat):Prop:=
 match z with
 | none=>l=dflt
 | some z=>∃ki i,S.op z=some (vv (.int ki i))∧i=(l:Int)
theorem fG {S:St} {l:Nat} :Hb S none l l:=rfl
theorem fC {S:St} {z:Operand} {d l:Nat} {ki:IntKind} {i:Int} (h:S.op z=some (vv (.int ki i))) (hi:i=(l:Int)):Hb S (some z) d l:=⟨ki,i,h,hi⟩
theorem run_sliceBound {ki:IntKind} {l y:Nat} (h:l≤y) (cd:BoundsCode) (w:World):(Instr.sliceBound (.int ki (l:Int)) y cd).run P w= .ok l w:=by
 simp [Instr.sliceBound,asIntOf,h]
theorem rH {T:TypeId} {e:TypeId} {inf:TypeInfo} (h1:P.underlying T=some (.slice e)) (h2:P.info? e=some inf) (hs:dV w0 ω0 nt S η ω a w) {lo hi:Option Operand} {l h len m:Nat} {ao:Option Addr} (hlo:Hb S lo 0 l) (hhi:Hb S hi len h) (hlh:l≤h) (hhm:h≤m):
  (Instr.sliceAt T (.slice ao len m) (lo.map a.eval) (hi.map a.eval) none).run P w= .ok (.slice (if m=l then ao else ao.map (·.add (l * inf.size))) (h - l) (m - l)) w:=by
 have key:(Instr.sliceBounds true len m (lo.map a.eval) (hi.map a.eval) none).run P w= .ok (l,h,m) w:=by
  unfold Instr.sliceBounds
  cases hi with
  | none=>
   obtain rfl:h=len:=hhi
   cases lo with
   | none=>obtain rfl:l=0:=hlo;simp
   | some z=>obtain ⟨ki,i,hz,rfl⟩:=hlo;simp [hs.nY hz,run_sliceBound hlh]
  | some z'=>
   obtain ⟨ki',i',hz',rfl⟩:=hhi
   cases lo with
   | none=>obtain rfl:l=0:=hlo;simp [hs.nY hz',run_sliceBound hhm]
   | some z=>obtain ⟨ki,i,hz,rfl⟩:=hlo;simp [hs.nY hz',hs.nY hz,run_sliceBound hhm,run_sliceBound hlh]
 simp [Instr.sliceAt,run_underlying h1,Instr.slice,key,sizeOf,typeInfo,h2]
theorem eU {T:TypeId} {n:Nm} {off len k l h:Nat} {c:Ch} {lo hi:Option Operand} (ht:Nat.blt t nt=true) (hx:S.op x=some (o1 (.sl n off len))) (hc:S.ch n=some c) (hk:c.k=k) (hT:lR P T k=true) (hk0:0 < k)
  (hlo:Hb S lo 0 l) (hhi:Hb S hi len h) (hlh:l≤h) (hhl:h≤len) (hl:(off + len) * k≤c.d.len):dx P nt ⟨some t, .slice T x lo hi none,ty,ps,af,gd⟩ S (S.put t (o1 (.sl n (off + l) (h - l)))):=
 dx.pure rfl ht fun _ _ η _ a w hs=>by
  obtain ⟨hd,h1,h2,h3⟩:=hs.chunk hc
  have hd1:dm η (.sl n off len) (a.eval x):=hs.kG hx
  obtain ⟨ao,e1,e2,e3⟩:=hd1.2 hd h1
  obtain ⟨e,inf,g1,g2,rfl⟩:=m8 hT
  have hcap:=h3.cap
  rw [h2,hk] at hcap
  have h5:off + len≤hd.c:=Nat.le_of_mul_le_mul_right (Nat.le_trans hl hcap) hk0
  refine ⟨.slice (if hd.c - off=l then ao else ao.map (·.add (l * inf.size))) (h - l) (hd.c - off - l),by simp only [execOp,e1];simp [rH g1 g2 hs hlo hhi hlh (m:=hd.c - off) ab],⟨_,_,rfl⟩,fun hd' he=> ?_⟩
  rw [h1] at he;obtain rfl:=Option.some.inj he
  refine ⟨_,by rw [Nat.sub_sub],fun h0=> ?_,fun h0 hlt=> ?_⟩
  ·obtain ⟨rfl,rfl⟩:off=0∧l=0:=by omega
   rw [e2 rfl]
   split
   ·rfl
   ·simp [Addr.add]
  ·rw [if_neg ab]
   by_cases hl0:0 < c.d.len
   ·obtain ⟨b',o',u,f1,_,_⟩:=h3.get hl0
    rcases Nat.eq_zero_or_pos off with h00 | h00
    ·subst h00;rw [e2 rfl,f1];simp [Addr.add_lit,h2,hk]
    ·rw [e3 h00 ab,f1];simp [Addr.add_lit,h2,hk,Nat.add_mul,Nat.add_assoc]
   ·exfalso
    have h6:(off + len) * inf.size≤0:=by omega
    have h7:off + len=0:=by
     rcases Nat.eq_zero_or_pos (off + len) with h8 | h8
     ·exact h8
     ·have:=Nat.mul_pos h8 hk0;omega
    omega
end
end Go.Proofs.Ytfpcfckocmmcnaa
namespace Go.Proofs.Ytfpcfckocmmcnaa
open Go.RowKit
section
variable {P:Program} {nt:Nat} {S S':St} {w0 w:World} {ω0:lI} {ω:bW} {η:Env} {a:Act}
variable {t:Nat} {ty:TypeId} {ps:String} {af:Array Edge} {gd:Option (Nat×Bool)} {x y:Operand} {av:AV}
def bW.new (ω:bW) (b:Nat) (o:Nm×Option Nat):bW:=fun b'=>if b'=b then some o else ω b'
theorem yU (S:St) (ω:bW) (w:World) (o:Obj) (ow:Nm×Option Nat):Calm S ω w (bW.new ω w.heap.size ow) (w.alloc o):=
 ⟨rfl,rfl,rfl,by simp,fun b hb _=>⟨Below.heap_alloc w o b hb,by simp [bW.new,Nat.ne_of_lt hb]⟩⟩
theorem dV.alloc (h:dV w0 ω0 nt S η ω a w) {x:Nm} {c:Ch} {cs:Array Value} {r:Nat→Hd} {n:Nat} (hown:c.own=true) (hn:cs.size=n * c.k) (hl:c.d.len≤n * c.k) (hm:n≤maxLen)
  (hc:∀j,j < c.d.len→∃u,cs[j]? =some u∧cR (η.new x ⟨some ⟨w.heap.size,0,none⟩,n,c.k⟩ r) (bW.new ω w.heap.size (x,none)) (w.alloc (.cells cs c.E)) true x c.d j u):
  dV w0 ω0 nt (S.new x c) (η.new x ⟨some ⟨w.heap.size,0,none⟩,n,c.k⟩ r) (bW.new ω w.heap.size (x,none)) a (w.alloc (.cells cs c.E)):=
 h.lay (yU S ω w _ _) ⟨rfl,by
  rw [hown]
  refine .inr ⟨w.heap.size,0,cs,rfl,by simp [bW.new],heap_alloc_new w _,⟨rfl,hn⟩,hl,hm,fun j hj=> ?_⟩
  obtain ⟨u,h1,h2⟩:=hc j hj
  exact ⟨u,by simpa using h1,h2⟩⟩
def A2.list:A2→List A1
 | .one a=> [a]
 | .agg l=>l
theorem yH {a2:A2} {u:Value} (h:gT η a2 u) (h1:∀v,a2= .one (.val v)→v.oneCell'=true):u.cells.size=a2.list.length∧∀(j:Nat) (b:A1),a2.list[j]? =some b→∃u',u.cells[j]? =some u'∧dm η b u':=by
 cases a2 with
 | agg l=>
  obtain ⟨us,rfl,h2,h3⟩:=h
  exact ⟨h2,h3⟩
 | one b=>
  have ho:u.oneCell'=true:=dm.one (a:=b) h fun v hv=>h1 v (by rw [hv])
  have hc:u.cells= #[u]:=by cases u<;>first | rfl | cases ho
  rw [hc]
  refine ⟨rfl,fun j b' hb=> ?_⟩
  cases j with
  | zero=>simp [A2.list] at hb;subst hb;exact ⟨u,by simp,h⟩
  | succ j=>simp [A2.list] at hb
def A2.okB:A2→Bool
 | .one (.val v)=>v.oneCell'
 | _=>true
theorem A2.l3 {a2:A2} (h:a2.okB=true):∀v,a2= .one (.val v)→v.oneCell'=true:=by rintro v rfl;exact h
theorem du {T:TypeId} {a2:A2} (ht:Nat.blt t nt=true) (hx:S.op x=some (.s a2)) (h1:a2.okB=true) (hf:a2.list.any (A1.has t)=false):
  dx P nt ⟨some t, .box T x,ty,ps,af,gd⟩ S ((S.new t ⟨true,T,a2.list.length, .flat a2.list⟩).put t (o1 (.ptr t 0))):=
 dx.of _ fun w0 ω0 η ω a w hs=>by
  have hd:gT η a2 (a.eval x):=hs.kG hx
  obtain ⟨h2,h3⟩:=yH hd (A2.l3 h1)
  refine ⟨.pointer (some ⟨w.heap.size,0,none⟩),w.alloc (.cells (a.eval x).cells T),by simp [execOp,Instr.box,newVar,newRow], ?_⟩
  have hal:=hs.alloc (x:=t) (c:=⟨true,T,a2.list.length, .flat a2.list⟩) (cs:=(a.eval x).cells) (r:=fun _=>⟨none,0,1⟩) (n:=1) rfl (by simp [h2]) (by simp [fQ.len]) (by simp [maxLen]) fun j hj=>by
   obtain ⟨u,hu,hdu⟩:=h3 j a2.list[j] (List.getElem?_eq_getElem hj)
   refine ⟨u,hu,fun b hb=> ?_⟩
   rw [List.getElem?_eq_getElem hj] at hb
   obtain rfl:=Option.some.inj hb
   refine hdu.mono fun y hy=>Env.new_ne η _ _ y fun e=> ?_
   subst e
   have:=List.any_eq_false.1 hf _ (List.getElem_mem hj)
   rw [hy] at this;exact this rfl
  exact ⟨_,_,hal.iP (by simpa using ht) ⟨⟨_,rfl⟩,fun hd' he=>by simp [Env.new] at he;subst he;exact ⟨_,0,rfl,by simp⟩⟩⟩
theorem Bx {T:TypeId} {z:Value} {i:TypeInfo} (ht:Nat.blt t nt=true) (hi:P.info? T=some i) (hz:i.zero=some z):
  dx P nt ⟨some t, .alloc T,ty,ps,af,gd⟩ S ((S.new t ⟨true,T,z.cells.size, .flat (z.cells.toList.map .val)⟩).put t (o1 (.ptr t 0))):=
 dx.of _ fun w0 ω0 η ω a w hs=>by
  refine ⟨.pointer (some ⟨w.heap.size,0,none⟩),w.alloc (.cells z.cells T),by simp [execOp,Instr.alloc,zeroValue,typeInfo,hi,hz,newVar,newRow], ?_⟩
  have hal:=hs.alloc (x:=t) (c:=⟨true,T,z.cells.size, .flat (z.cells.toList.map .val)⟩) (cs:=z.cells) (r:=fun _=>⟨none,0,1⟩) (n:=1) rfl (by simp) (by simp [fQ.len]) (by simp [maxLen]) fun j hj=>by
   have hj':j < z.cells.size:=by simpa [fQ.len] using hj
   refine ⟨z.cells[j],by simp,fun b hb=> ?_⟩
   simp [hj'] at hb
   subst hb;exact rfl
  exact ⟨_,_,hal.iP (by simpa using ht) ⟨⟨_,rfl⟩,fun hd' he=>by simp [Env.new] at he;subst he;exact ⟨_,0,rfl,by simp⟩⟩⟩
def tS (P:Program) (T E k:Nat):Bool:=
 match P.underlying T with
 | some (.slice e)=>e == E && (match P.info? E with
  | some i=>i.size == k && decide (i.bytes≤64) && (match i.zero with | some z=>z.cells.size == k | none=>false)
  | none=>false)
 | _=>false
theorem fW {T E k:Nat} (h:tS P T E k=true):∃i z,P.underlying T=some (.slice E)∧P.info? E=some i∧i.size=k∧i.bytes≤64∧i.zero=some z∧z.cells.size=k:=by
 unfold tS at h
 split at h
 ·rename_i e he
  simp only [Bool.and_eq_true,beq_iff_eq] at h
  obtain ⟨rfl,h⟩:=h
  split at h
  ·rename_i i hi
   simp only [Bool.and_eq_true,beq_iff_eq,decide_eq_true_eq] at h
   obtain ⟨⟨h1,h2⟩,h3⟩:=h
   split at h3
   ·rename_i z hz
    exact ⟨i,z,he,hi,h1,h2,hz,by simpa using h3⟩
   ·cases h3
  ·cases h
 ·cases h
theorem gE {x:Nm} {b k n c:Nat} {r:Nat→Hd} :Den (η.new x ⟨some ⟨b,0,none⟩,c,k⟩ r) (o1 (.sl x 0 n)) (.slice (some ⟨b,0,none⟩) n c):=
 ⟨⟨_,_,rfl⟩,fun hd' he=>by simp [Env.new] at he;subst he;exact ⟨_,rfl,fun _=>rfl,fun h=>absurd h ab⟩⟩
theorem D0 (f:Nat→Value):Array.map f (Array.range 0)= #[]:=by apply Array.ext';simp [Array.toList_range,List.range_succ]
theorem zC (f:Nat→Value):Array.map f (Array.range 1)= #[f 0]:=by apply Array.ext';simp [Array.toList_range,List.range_succ]
theorem Gs (f:Nat→Value):Array.map f (Array.range 2)= #[f 0,f 1]:=by apply Array.ext';simp [Array.toList_range,List.range_succ]
theorem wg {T E k:Nat} (ht:Nat.blt t nt=true) (hT:tS P T E k=true):
  dx P nt ⟨some t, .buildSlice T 0 #[],ty,ps,af,gd⟩ S ((S.new t ⟨true,E,k, .cz []⟩).put t (o1 (.sl t 0 0))):=
 dx.of _ fun w0 ω0 η ω a w hs=>by
  obtain ⟨i,z,h1,h2,h3,h4,h5,h6⟩:=fW hT
  refine ⟨.slice (some ⟨w.heap.size,0,none⟩) 0 0,w.alloc (.cells #[] E),by simp [execOp,Instr.buildSlice,run_underlying h1,sizeOf,typeInfo,h2,Instr.fill,newRow,D0], ?_⟩
  have hal:=hs.alloc (x:=t) (c:=⟨true,E,k, .cz []⟩) (cs:= #[]) (r:=fun _=>⟨none,0,1⟩) (n:=0) rfl (by simp) (by simp [fQ.len]) (by simp [maxLen]) fun j hj=>absurd hj (by simp [fQ.len])
  exact ⟨_,_,hal.iP (by simpa using ht) gE⟩
theorem kF {v:Value} (h:v.oneCell'=true):v.cells= #[v]:=by cases v<;>first | rfl | cases h
theorem rC {T E:Nat} {x0:Operand} {b0:A1} (ht:Nat.blt t nt=true) (hT:tS P T E 1=true) (hx:S.op x0=some (o1 b0)) (h1:(A2.one b0).okB=true) (hf:b0.has t=false):
  dx P nt ⟨some t, .buildSlice T 1 #[(0,x0)],ty,ps,af,gd⟩ S ((S.new t ⟨true,E,1, .flat [b0]⟩).put t (o1 (.sl t 0 1))):=
 dx.of _ fun w0 ω0 η ω a w hs=>by
  obtain ⟨i,z,k1,k2,k3,k4,k5,k6⟩:=fW hT
  have hd0:dm η b0 (a.eval x0):=hs.kG hx
  have ho:(a.eval x0).oneCell'=true:=hd0.one fun v hv=>A2.l3 h1 v (by rw [hv])
  refine ⟨.slice (some ⟨w.heap.size,0,none⟩) 1 1,w.alloc (.cells #[a.eval x0] E), ?_, ?_⟩
  ·simp [execOp,Instr.buildSlice,run_underlying k1,sizeOf,typeInfo,k2,k3,zeroValue,k5,Instr.fill,newRow,kF ho,zC]
  ·have hal:=hs.alloc (x:=t) (c:=⟨true,E,1, .flat [b0]⟩) (cs:= #[a.eval x0]) (r:=fun _=>⟨none,0,1⟩) (n:=1) rfl (by simp) (by simp [fQ.len]) (by simp [maxLen]) fun j hj=>by
    have hj0:j=0:=by simp [fQ.len] at hj;omega
    subst hj0
    refine ⟨a.eval x0,by simp,fun b hb=> ?_⟩
    simp at hb;subst hb
    exact hd0.mono fun y hy=>Env.new_ne η _ _ y fun e=>by subst e;rw [hf] at hy;cases hy
   exact ⟨_,_,hal.iP (by simpa using ht) gE⟩
end
end Go.Proofs.Ytfpcfckocmmcnaa
namespace Go.Proofs.Ytfpcfckocmmcnaa
open Go.RowKit
section
variable {P:Program} {nt:Nat} {S S':St} {w0 w:World} {ω0:lI} {ω:bW} {η:Env} {a:Act}
variable {t:Nat} {ty:TypeId} {ps:String} {af:Array Edge} {gd:Option (Nat×Bool)} {x y:Operand} {av:AV}
def jJ (P:Program) (T:TypeId) (k:Nat):Bool:=
 match P.info? T with
 | some i=>i.size == k
 | none=>false
theorem oQ {T:TypeId} {k:Nat} (h:jJ P T k=true) (w:World):(sizeOf T).run P w= .ok k w:=by
 unfold jJ at h
 split at h
 ·rename_i i hi
  have:i.size=k:=by simpa using h
  simp [sizeOf,typeInfo,hi,this]
 ·cases h
theorem nh {T:TypeId} (h:jJ P T 1=true) {p:Addr} {u v:Value} (hc:w.cell? p=some u) (hf:w.frozen? p=false) (h1:v.oneCell'=true):(Instr.storeAt T (.pointer (some p)) v).run P w= .ok () (w.setCell p v):=by
 have hst:(store p v).run P w= .ok () (w.setCell p v):=by
  cases v<;>first | (simp [store,Sem.run,hc,hf];done) | exact absurd h1 (by simp [Value.oneCell'])
 simp [Instr.storeAt,Instr.sureAddr,storeVar,kF h1,oQ h,storeCells,Addr.add,hst]
theorem dx.unit {o:Oper} (hd:o.dst=none) (h:∀w0 ω0 η ω a w,dV w0 ω0 nt S η ω a w→∃w',(execOp a.eval o).run P w= .ok .skip w'∧Sat w0 ω0 nt S' a w'):dx P nt o S S':=by
 refine ⟨fun w0 ω0 a w Q ⟨η,ω,hs⟩=> ?_⟩
 obtain ⟨w',h1,h2⟩:=h w0 ω0 η ω a w hs
 unfold Oper.wp
 rw [h1]
 simp only [Oper.upon,hd,Act.put]
 exact h2
theorem uH {b:Nat} {ow:Nm×Option Nat} (hb:ω b=some ow) (hn:S.ch ow.1=none) (p:Addr) (hp:p.block=b) (u:Value):Calm S ω w ω (w.setCell p u):=
 ⟨rfl,rfl,rfl,by simp [World.setCell],fun b' _ hl=>⟨Below.heap_setCell w p u b' (by
  intro e
  rw [hp] at e;subst e
  rcases hl with h0 | ⟨y,i,c,h0,h1⟩
  ·rw [hb] at h0;cases h0
  ·rw [hb] at h0;obtain rfl:=Option.some.inj h0
   rw [hn] at h1;cases h1),rfl⟩⟩
theorem heap_set {b o:Nat} {cs:Array Value} {E:TypeId} {fr:Nat×Nat} (h:w.heap[b]? =some (.cells cs E fr)) (u:Value):(w.setCell ⟨b,o,none⟩ u).heap[b]? =some (.cells (cs.setIfInBounds o u) E fr):=by
 simp [World.setCell,Array.getElem?_modify,h]
theorem oU {b o:Nat} {cs:Array Value} {E:TypeId} (h:w.heap[b]? =some (.cells cs E (0,0))):w.frozen? ⟨b,o,none⟩=false:=by
 simp [World.frozen?,h]
theorem k7 {b:Nat} {ow:Nm×Option Nat} (hb:ω b=some ow) (p:Addr) (hp:p.block=b) (u:Value):Same ω w ω (w.setCell p u) (fun o=>o≠some ow):=
 ⟨by simp [World.setCell],fun b' _ hl=>⟨Below.heap_setCell w p u b' (by
  intro e
  rw [hp] at e;subst e
  exact hl hb),rfl⟩⟩
theorem cR.D2 {own:Bool} {n:Nm} {d:fQ} {j:Nat} {u:Value} {w':World} {p:Option (Nm×Option Nat)→Prop} (hs:Same ω w ω w' p) (hp:p none) (hp':∀i,p (some (n,some i))) (h:cR η ω w own n d j u):cR η ω w' own n d j u:=by
 cases d with
 | flat l=>exact h
 | cz vs=>exact h
 | rows E vss dL=>exact ⟨h.1,fun hj vs hvs=>have ⟨h1,h2,h3⟩:=h.2 hj vs hvs;⟨h1,h2,h3.same hs hp (hp' j) fun _ _ h=>h⟩⟩
 | mix cs=>exact ⟨h.1,fun c hc=>(h.2 c hc).move rfl fun _ _ _ _ _ h3=>h3.same hs hp (hp' j) fun _ _ h=>h⟩
theorem dV.H8 (hs:dV w0 ω0 nt S η ω a w) {n:Nm} {hd:Hd} {c':Ch} {b:Nat} {ow:Option Nat} (hn:η.h n=some hd) (hb:ω b=some (n,ow)) (p:Addr) (hp:p.block=b) (u:Value) (hc:eD η ω (w.setCell p u) n hd c'):
  dV w0 ω0 nt (S.set n c') η ω a (w.setCell p u):=hs.write hn (uH hb (by simp [iI]) p hp u) hc
theorem dV.DY (hs:dV w0 ω0 nt S η ω a w) {n:Nm} {c:Ch} {d':fQ} {i:Nat} {p v:Value} {T:TypeId} (hp:dm η (.ptr n i) p) (hc:S.ch n=some c) (hown:c.own=true) (hi:i < c.d.len) (hT:jJ P T 1=true) (h1:v.oneCell'=true)
  (hl:d'.len=c.d.len) (hd:∀w' j u,j≠i→cR η ω w' true n c.d j u→cR η ω w' true n d' j u) (hv:∀w',cR η ω w' true n d' i v):
  ∃w',(Instr.storeAt T p v).run P w= .ok () w'∧dV w0 ω0 nt (S.set n { c with d:=d' }) η ω a w':=by
 obtain ⟨h,e1,e2,e3⟩:=hs.chunk hc
 obtain ⟨b,o,g1,rfl⟩:=hp.2 h e1
 rw [hown] at e3
 rcases e3 with ⟨_,_,h0⟩ | ⟨b',o',cs,f1,f2,f3,f4,f5,f6,f7⟩
 ·omega
 rw [g1] at f1;injection f1 with f1;injection f1 with f1 f1';subst f1 f1'
 obtain ⟨u,hu,_⟩:=f7 i hi
 have hcell:w.cell? ⟨b,o + i,none⟩=some u:=by rw [cell_of_row w b (o + i) cs c.E (0,0) f3];exact hu
 have hsz:o + i < cs.size:=by
  rcases Nat.lt_or_ge (o + i) cs.size with hlt | hge
  ·exact hlt
  ·rw [Array.getElem?_eq_none hge] at hu;cases hu
 refine ⟨_,nh hT hcell (oU f3) h1,hs.H8 e1 f2 _ rfl v ⟨e2, ?_⟩⟩
 show lQ c.own ω _ (n,none) h c.E d'.len (cR η ω _ c.own n d')
 rw [hown]
 refine .inr ⟨b,o,_,g1,f2,heap_set f3 v,by simpa using f4,by rw [hl];exact f5,f6,fun j hj=> ?_⟩
 rw [hl] at hj
 obtain ⟨u',hu',hk⟩:=f7 j hj
 by_cases e:j=i
 ·subst e
  exact ⟨v,by simp [hsz],hv _⟩
 ·refine ⟨u',by rw [Array.getElem?_setIfInBounds_ne ab];exact hu',hd _ j u' e (hk.D2 (k7 f2 _ rfl v) (by simp) (by simp))⟩
theorem fB {T:TypeId} {n:Nm} {i:Nat} {c:Ch} {l:List A1} {b:A1} (hx:S.op x=some (o1 (.ptr n i))) (hy:S.op y=some (o1 b)) (hc:S.ch n=some c) (hown:c.own=true) (hd:c.d= .flat l) (hi':Nat.blt i l.length=true) (hT:jJ P T 1=true) (h1:(A2.one b).okB=true):
  dx P nt ⟨none, .store T x y,ty,ps,af,gd⟩ S (S.set n { c with d:= .flat (l.set i b) }):=
 have hi:i < l.length:=by simpa using hi'
 dx.unit rfl fun w0 ω0 η ω a w hs=>by
  have hb:dm η b (a.eval y):=hs.kG hy
  obtain ⟨w',k1,k2⟩:=hs.DY (P:=P) (T:=T) (d':= .flat (l.set i b)) (hs.kG hx) hc hown (by rw [hd];exact hi) hT (hb.one fun v hv=>A2.l3 h1 v (by rw [hv])) (by rw [hd];simp [fQ.len])
   (fun w' j u hj hk b' hb'=>by rw [hd] at hk;rw [List.getElem?_set_ne (fun e=>hj e.symm)] at hb';exact hk b' hb')
   (fun w' b' hb'=>by simp [List.getElem?_set_self hi] at hb';subst hb';exact hb)
  exact ⟨w',by simp [execOp,k1],_,_,k2⟩
theorem qo {T:TypeId} {n:Nm} {i:Nat} {c:Ch} {vs:List Value} {v:Value} (hx:S.op x=some (o1 (.ptr n i))) (hy:S.op y=some (vv v)) (hc:S.ch n=some c) (hown:c.own=true) (hd:c.d= .cz vs) (hi:i < vs.length) (hT:jJ P T 1=true) (h1:v.oneCell'=true):
  dx P nt ⟨none, .store T x y,ty,ps,af,gd⟩ S (S.set n { c with d:= .cz (vs.set i v) }):=
 dx.unit rfl fun w0 ω0 η ω a w hs=>by
  have hb:a.eval y=v:=hs.kG hy
  obtain ⟨w',k1,k2⟩:=hs.DY (P:=P) (T:=T) (d':= .cz (vs.set i v)) (v:=v) (hs.kG hx) hc hown (by rw [hd];exact hi) hT h1 (by rw [hd];simp [fQ.len])
   (fun w' j u hj hk=>by rw [hd] at hk;show (vs.set i v)[j]? =some u;rw [List.getElem?_set_ne (fun e=>hj e.symm)];exact hk)
   (fun w'=>by show (vs.set i v)[i]? =some v;rw [List.getElem?_set_self hi])
  exact ⟨w',by simp [execOp,hb,k1],_,_,k2⟩
theorem yB {T:TypeId} {n:Nm} {i j:Nat} {c:Ch} {E:TypeId} {vss:List (List Value)} {dL:List Nat} {vs:List Value} {v:Value} (hx:S.op x=some (o1 (.eptr n i j))) (hy:S.op y=some (vv v)) (hc:S.ch n=some c) (hown:c.own=true)
  (hd:c.d= .rows E vss dL) (hh:i ∉ dL) (hi:vss[i]? =some vs) (hj:j < vs.length) (hT:jJ P T 1=true) (h1:v.oneCell'=true):
  dx P nt ⟨none, .store T x y,ty,ps,af,gd⟩ S (S.set n { c with d:= .rows E (vss.set i (vs.set j v)) dL }):=
 dx.unit rfl fun w0 ω0 η ω a w hs=>by
  have hb:a.eval y=v:=hs.kG hy
  have hp:dm η (.eptr n i j) (a.eval x):=hs.kG hx
  have hil:i < vss.length:=(List.getElem?_eq_some_iff.1 hi).1
  obtain ⟨h,e1,e2,e3⟩:=hs.chunk hc
  obtain ⟨bb,o,g1,g2⟩:=hp.2 h e1
  rw [hown,hd] at e3
  rcases e3 with ⟨_,_,h0⟩ | ⟨b',o',cs,f1,f2,f3,f4,f5,f6,f7⟩
  ·have h0:vss.length=0:=h0;omega
  obtain ⟨u,hu,hk⟩:=f7 i hil
  obtain ⟨rfl,k2,k3⟩:=hk.2 hh vs hi
  rcases k3 with ⟨q1,_⟩ | ⟨b2,o2,cs2,q1,q2,q3,q4,q5,q6,q7⟩
  ·rw [g1] at q1;cases q1
  rw [g1] at q1;injection q1 with q1;injection q1 with q1 q1';subst q1 q1'
  obtain ⟨u',hu',_⟩:=q7 j hj
  have hcell:w.cell? ⟨bb,o + j,none⟩=some u':=by rw [cell_of_row w bb (o + j) cs2 E (0,0) q3];exact hu'
  have hsz:o + j < cs2.size:=by
   rcases Nat.lt_or_ge (o + j) cs2.size with hlt | hge
   ·exact hlt
   ·rw [Array.getElem?_eq_none hge] at hu';cases hu'
  have hsame:=k7 (w:=w) q2 ⟨bb,o + j,none⟩ rfl v
  refine ⟨w.setCell ⟨bb,o + j,none⟩ v,by simp [execOp,hb,g2,nh hT hcell (oU q3) h1],η,ω,hs.H8 e1 q2 _ rfl v ⟨e2, ?_⟩⟩
  show lQ c.own ω _ (n,none) h c.E (vss.set i (vs.set j v)).length (cR η ω _ c.own n (.rows E (vss.set i (vs.set j v)) dL))
  rw [hown]
  have hbb:b'≠bb:=fun e=>by subst e;rw [f2] at q2;cases q2
  refine .inr ⟨b',o',cs,f1,f2,(hsame.2 b' (ff f3) (by rw [f2];simp)).1.trans f3,f4,by rw [List.length_set];exact f5,f6,fun m hm=> ?_⟩
  rw [List.length_set] at hm
  obtain ⟨u2,hu2,hk2⟩:=f7 m hm
  refine ⟨u2,hu2,hk2.1,fun hm' vs' hvs'=> ?_⟩
  by_cases e:i=m
  ·subst e
   rw [List.getElem?_set_self hil] at hvs'
   obtain rfl:=Option.some.inj hvs'
   have hk2':=hk2.2 hm' vs hi
   refine ⟨by rw [List.length_set];exact hk2'.1,k2, .inr ⟨bb,o,_,g1,q2,heap_set q3 v,by simpa using q4,by rw [List.length_set];exact q5,q6,fun jj hjj=> ?_⟩⟩
   rw [List.length_set] at hjj
   obtain ⟨u3,hu3,hk3⟩:=q7 jj hjj
   by_cases e':j=jj
   ·subst e'
    exact ⟨v,by simp [hsz],List.getElem?_set_self hj⟩
   ·exact ⟨u3,by rw [Array.getElem?_setIfInBounds_ne ab];exact hu3,(List.getElem?_set_ne e').trans hk3⟩
  ·rw [List.getElem?_set_ne e] at hvs'
   obtain ⟨r1,r2,r3⟩:=hk2.2 hm' vs' hvs'
   exact ⟨r1,r2,r3.same hsame (by simp) (by simp;exact fun e'=>e e'.symm) fun _ _ h=>h⟩
end
end Go.Proofs.Ytfpcfckocmmcnaa
namespace Go.Proofs.Ytfpcfckocmmcnaa
open Go.RowKit
def lk {α:Type} (t:Nat):List (Nat×α)→Option α
 | []=>none
 | (t',a) :: r=>bif Nat.beq t t' then some a else lk t r
def St.of (sl:List (Nat×AV)) (ch:List (Nm×Ch)) (ph:List (Nat×AV):= []):St:= { sl:=fun t=>lk t sl,ch:=fun x=>lk x ch,ph:=fun t=>lk t ph }
section
variable {P:Program} {nt:Nat} {w0:World} {ω0:lI} {S S1 S':St} {Q:Exit→Act→World→Prop}
structure pR (P:Program) (w0:World) (ω0:lI) (nt:Nat) (ops:Array Oper) (Q:Exit→Act→World→Prop) (S:St) (rest:List Oper):Prop where
 go:∀a w,Sat w0 ω0 nt S a w→wpList P ops Q rest a w
structure fZ (P:Program) (w0:World) (ω0:lI) (nt:Nat) (S:St) (c:Code) (Q:Exit→Act→World→Prop):Prop where
 go:∀a w,Sat w0 ω0 nt S a w→c.wp P Q a w
structure Fin (w0:World) (ω0:lI) (nt:Nat) (S:St) (e:Exit) (Q:Exit→Act→World→Prop):Prop where
 go:∀a w,Sat w0 ω0 nt S a w→Q e a w
structure Wk (S S':St):Prop where
 go:∀w0 ω0 nt a w,Sat w0 ω0 nt S a w→Sat w0 ω0 nt S' a w
variable {ops:Array Oper} {rest:List Oper} {o:Oper}
theorem aA (h:Fin w0 ω0 nt S .normal Q):pR P w0 ω0 nt ops Q S []:=⟨fun a w hs=>h.go a w hs⟩
theorem aa (hg:o.guard=none) (h:dx P nt o S S1) (k:pR P w0 ω0 nt ops Q S1 rest):pR P w0 ω0 nt ops Q S (o :: rest):=by
 refine ⟨fun a w hs=> ?_⟩
 refine wpList_plain hg fun K hK=> ?_
 exact Oper.wp_mono (fun a' w' h'=>hK a' w' (k.go a' w' h')) (h.go w0 ω0 a w Q hs)
theorem tR {j d:Nat} {want b:Bool} (hg:o.guard=some (j,want)) (hj:(ops[j]?).bind (·.dst)=some d) (hb:S.sl d=some (vv (.bool b))) (h1:b=want→∃S1,dx P nt o S S1∧pR P w0 ω0 nt ops Q S1 rest)
  (h2:b≠want→∃t,o.dst=some t∧Nat.blt t nt=true∧pR P w0 ω0 nt ops Q (S.put t (vv undef)) rest):pR P w0 ω0 nt ops Q S (o :: rest):=by
 refine ⟨fun a w hs=> ?_⟩
 have hy:yielded ops a.tmps j=some b:=by
  obtain ⟨η,ω,hs⟩:=hs
  obtain ⟨u,k1,k2⟩:=hs.slots d _ hb
  have k2:u= .bool b:=k2
  subst k2
  unfold yielded
  cases hoj:ops[j]? with
  | none=>rw [hoj] at hj;cases hj
  | some oj=>
   rw [hoj] at hj
   simp only [Option.bind_some] at hj
   simp [hj,k1]
 refine wpList_step fun K hK=> ?_
 by_cases e:b=want
 ·rw [if_pos (by simp [Region.wanted,hg,hy,e])]
  obtain ⟨S1,h,k⟩:=h1 e
  exact Oper.wp_mono (fun a' w' h'=>hK a' w' (k.go a' w' h')) (h.go w0 ω0 a w Q hs)
 ·rw [if_neg (by simp [Region.wanted,hg,hy,e])]
  obtain ⟨t,ht,hlt,k⟩:=h2 e
  obtain ⟨η,ω,hs⟩:=hs
  exact hK _ _ (k.go _ _ ⟨η,ω,by rw [ht];exact hs.iP (by simpa using hlt) rfl⟩)
theorem ah {id:Nat} {l:List Oper} (h:pR P w0 ω0 nt l.toArray Q S l):fZ P w0 ω0 nt S (.region id l.toArray false) Q:=⟨fun a w hs=>wp_region_lit (h.go a w hs)⟩
theorem au {x y:Code} (h:fZ P w0 ω0 nt S x (Exit.then (y.wp P Q) Q)):fZ P w0 ω0 nt S (.seq x y) Q:=⟨fun a w hs=>wp_seq (h.go a w hs)⟩
theorem ax {y:Code} (h:fZ P w0 ω0 nt S y Q):Fin w0 ω0 nt S .normal (Exit.then (y.wp P Q) Q):=⟨fun a w hs=>h.go a w hs⟩
theorem aU (h:Fin w0 ω0 nt S .normal Q):fZ P w0 ω0 nt S .skip Q:=⟨fun a w hs=>wp_skip (h.go a w hs)⟩
theorem bI {id:Nat} (h:Fin w0 ω0 nt S (.exit id) Q):fZ P w0 ω0 nt S (.exit id) Q:=⟨fun a w hs=>wp_exit (h.go a w hs)⟩
theorem bw (h:Fin w0 ω0 nt S .ret Q):fZ P w0 ω0 nt S .ret Q:=⟨fun a w hs=>wp_ret (h.go a w hs)⟩
theorem aQ {id:Nat} {c:Code} (h:fZ P w0 ω0 nt S c (Exit.inBlock id Q)):fZ P w0 ω0 nt S (.block id c) Q:=⟨fun a w hs=>wp_block (h.go a w hs)⟩
theorem bp {id:Nat} (h:Fin w0 ω0 nt S .normal Q):Fin w0 ω0 nt S .normal (Exit.inBlock id Q):=⟨fun a w hs=>h.go a w hs⟩
theorem bt {id:Nat} (h:Fin w0 ω0 nt S .normal Q):Fin w0 ω0 nt S (.exit id) (Exit.inBlock id Q):=⟨fun a w hs=>by simp only [Exit.inBlock,if_true];exact h.go a w hs⟩
theorem aF {id:Nat} {K:Act→World→Prop} (h:Fin w0 ω0 nt S (.exit id) Q):Fin w0 ω0 nt S (.exit id) (Exit.then K Q):=⟨fun a w hs=>h.go a w hs⟩
theorem aJ {K:Act→World→Prop} (h:Fin w0 ω0 nt S .ret Q):Fin w0 ω0 nt S .ret (Exit.then K Q):=⟨fun a w hs=>h.go a w hs⟩
theorem aX {id:Nat} (h:Fin w0 ω0 nt S .ret Q):Fin w0 ω0 nt S .ret (Exit.inBlock id Q):=⟨fun a w hs=>h.go a w hs⟩
theorem bf {c:Operand} {x y:Code} {b:Bool} (hc:S.op c=some (vv (.bool b))) (ht:b=true→fZ P w0 ω0 nt S x Q) (hf:b=false→fZ P w0 ω0 nt S y Q):fZ P w0 ω0 nt S (.cond c x y) Q:=
 ⟨fun a w hs=>wp_cond_split (t:=b) (by obtain ⟨η,ω,hs⟩:=hs;exact hs.nY hc) (fun e=>(ht e).go a w hs) (fun e=>(hf e).go a w hs)⟩
theorem bY {c:Operand} {x y:Code} {p:Prop} [Decidable p] (hc:S.op c=some (vv (.bool (decide p)))) (ht:p→fZ P w0 ω0 nt S x Q) (hf:¬p→fZ P w0 ω0 nt S y Q):fZ P w0 ω0 nt S (.cond c x y) Q:=
 bf hc (fun e=>ht (of_decide_eq_true e)) (fun e=>hf (of_decide_eq_false e))
theorem Wk.trans {S2:St} (h:Wk S S1) (k:Wk S1 S2):Wk S S2:=⟨fun _ _ _ _ _ x=>k.go _ _ _ _ _ (h.go _ _ _ _ _ x)⟩
theorem least {p:Nat→Prop} (h:∃n,p n):∃n,p n∧∀m,p m→n≤m:=by
 obtain ⟨n,hn⟩:=h
 induction n using Nat.strongRecOn with
 | _ n ih=>
  by_cases h':∃m,m < n∧p m
  ·obtain ⟨m,hm,hp⟩:=h'
   exact ih m hm hp
  ·exact ⟨n,hn,fun m hm=>Nat.le_of_not_lt fun hlt=>h' ⟨m,hlt,hm⟩⟩
theorem bB (h:Wk S1 S'):Fin w0 ω0 nt S1 .normal (fun e a w=>e= .normal∧Sat w0 ω0 nt S' a w):=⟨fun a w hs=>⟨rfl,h.go _ _ _ a w hs⟩⟩
def wD {ι:Type} (w0:World) (ω0:lI) (nt:Nat) (I:ι→St) (p:ι→Prop) (μ:ι→Nat) (i:ι) (a:Act) (w:World):Prop:=∃j,p j∧μ j < μ i∧Sat w0 ω0 nt (I j) a w
open Classical in
theorem bR {ι:Type} (I:ι→St) (p:ι→Prop) (μ:ι→Nat) (i0:ι) {c:Code} (hp:p i0) (h0:Wk S (I i0)) (hr:∀i,p i→fZ P w0 ω0 nt (I i) c (Exit.then (wD w0 ω0 nt I p μ i) Q)):fZ P w0 ω0 nt S (.loop c) Q:=by
 refine ⟨fun a w hs=> ?_⟩
 have ex:∀a w,(∃i,p i∧Sat w0 ω0 nt (I i) a w)→∃n i,(p i∧Sat w0 ω0 nt (I i) a w)∧μ i=n:=fun a w ⟨i,hi⟩=>⟨μ i,i,hi,rfl⟩
 refine wp_loop (fun a w=>∃i,p i∧Sat w0 ω0 nt (I i) a w) (fun a w=>if h:∃i,p i∧Sat w0 ω0 nt (I i) a w then Classical.choose (least (ex a w h)) else 0) ⟨i0,hp,h0.go _ _ _ a w hs⟩ fun a w hI=> ?_
 obtain ⟨⟨i,hi,hm⟩,_⟩:=Classical.choose_spec (least (ex a w hI))
 refine Code.wp_mono (fun e a' w' hq=> ?_) ((hr i hi.1).go a w hi.2)
 cases e with
 | normal=>
  obtain ⟨j,hpj,hj,hsj⟩:=hq
  refine ⟨⟨j,hpj,hsj⟩, ?_⟩
  simp only [dif_pos hI,dif_pos (⟨j,hpj,hsj⟩:∃i,p i∧Sat w0 ω0 nt (I i) a' w')]
  refine Nat.lt_of_le_of_lt ((Classical.choose_spec (least (ex a' w' ⟨j,hpj,hsj⟩))).2 _ ⟨j,⟨hpj,hsj⟩,rfl⟩) ?_
  rw [←hm];exact hj
 | _=>exact hq
theorem bu {ι:Type} {I:ι→St} {p:ι→Prop} {μ:ι→Nat} {i:ι} (j:ι) (hp:p j) (hm:μ j < μ i) (h:Wk S (I j)):Fin w0 ω0 nt S .normal (Exit.then (wD w0 ω0 nt I p μ i) Q):=
 ⟨fun a w hs=>⟨j,hp,hm,h.go _ _ _ a w hs⟩⟩
def C9 (S:St):List (Nat×AV)→Prop
 | []=>True
 | (t,av) :: r=>S.sl t=some av∧C9 S r
def qW (S:St):List (Nm×Ch)→Prop
 | []=>True
 | (x,c) :: r=>S.ch x=some c∧qW S r
theorem wX:∀ {l:List (Nat×AV)} {t:Nat} {av:AV},C9 S l→lk t l=some av→S.sl t=some av
 | [],_,_,_,h=>by cases h
 | (t',av') :: r,t,av,h,hl=>by
  unfold lk at hl
  cases hb:Nat.beq t t' with
  | true=>rw [hb] at hl;simp at hl;subst hl;rw [beq_true hb];exact h.1
  | false=>rw [hb] at hl;exact wX h.2 hl
def ql (S:St):List (Nat×AV)→Prop
 | []=>True
 | (t,av) :: r=>S.ph t=some av∧ql S r
theorem so:∀ {l:List (Nat×AV)} {t:Nat} {av:AV},ql S l→lk t l=some av→S.ph t=some av
 | [],_,_,_,h=>by cases h
 | (t',av') :: r,t,av,h,hl=>by
  unfold lk at hl
  cases hb:Nat.beq t t' with
  | true=>rw [hb] at hl;simp at hl;subst hl;rw [beq_true hb];exact h.1
  | false=>rw [hb] at hl;exact so h.2 hl
theorem rS:∀ {l:List (Nm×Ch)} {t:Nat} {av:Ch},qW S l→lk t l=some av→S.ch t=some av
 | [],_,_,_,h=>by cases h
 | (t',av') :: r,t,av,h,hl=>by
  unfold lk at hl
  cases hb:Nat.beq t t' with
  | true=>rw [hb] at hl;simp at hl;subst hl;rw [beq_true hb];exact h.1
  | false=>rw [hb] at hl;exact rS h.2 hl
open Classical in
theorem Wk.less (hs:∀t av,S'.sl t=some av→S.sl t=some av) (hc:∀x c,S'.ch x=some c→S.ch x=some c) (hp:∀t av,S'.ph t=some av→S.ph t=some av):Wk S S':=by
 refine ⟨fun w0 ω0 nt a w ⟨η,ω,h⟩=> ?_⟩
 have key:∀x,(if S'.ch x=none then none else η.h x)=none∨((if S'.ch x=none then none else η.h x)=η.h x∧∀i,η.r x i=η.r x i):=fun x=>by
  by_cases e:S'.ch x=none
  ·exact .inl (if_pos e)
  ·exact .inr ⟨if_neg e,fun _=>rfl⟩
 refine ⟨{ η with h:=fun x=>if S'.ch x=none then none else η.h x },ω,⟨h.dfr,h.tsz,fun t av ht=> ?_,fun t av ht=> ?_,⟨fun x c hx=> ?_,fun x hx=>if_pos hx⟩,h.fr⟩⟩
 ·obtain ⟨u,h1,h2⟩:=h.slots t av (hs t av ht)
  exact ⟨u,h1,h2.mono fun y _=>key y⟩
 ·obtain ⟨u,h1,h2⟩:=h.phs t av (hp t av ht)
  exact ⟨u,h1,h2.mono fun y _=>key y⟩
 ·obtain ⟨hd,h1,h2⟩:=h.mem.1 x c (hc x c hx)
  refine ⟨hd,by simp [hx,h1],eD.same (η:=η) (p:=fun _=>True) (Same.refl _ _ _) trivial (fun _=>trivial) (fun _=>rfl) (fun l _ a _ z _=>key z) h2⟩
theorem Wk.of {sl ph:List (Nat×AV)} {ch:List (Nm×Ch)} (hs:C9 S sl) (hc:qW S ch) (hp:ql S ph):Wk S (St.of sl ch ph):=Wk.less (fun _ _ h=>wX hs h) (fun _ _ h=>rS hc h) (fun _ _ h=>so hp h)
end
end Go.Proofs.Ytfpcfckocmmcnaa
