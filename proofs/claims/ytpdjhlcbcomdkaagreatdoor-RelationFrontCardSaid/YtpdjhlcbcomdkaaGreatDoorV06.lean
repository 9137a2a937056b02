/- Several texts in one: The room in memory: one block of 297 cells. Items, events and what is taken, in memory. The walk of rtcp.parts: an item that is no farewell. The walk of report.Get. The state of report.Get: the result's item, the eye. The walk of report.Get: a report. The state of report.Get's loop: the item, the eye, the blocks so far. Append to a slice of the call's own at a step of a region that draws its order. Over any program. -/
import Derived.Test.YtpdjhlcbcomdkaaGreatDoorChecked
import Derived.Laws.Rows
import Derived.Deep.RegionLawGrows
import Derived.Deep.RegionHeld3
import Derived.Test.YtpdjhlcbcomdkaaGreatDoorV01
import Derived.Test.YtpdjhlcbcomdkaaGreatDoorV02
import Derived.Test.YtpdjhlcbcomdkaaGreatDoorV03
import Derived.Test.YtpdjhlcbcomdkaaGreatDoorV04
import Derived.Test.YtpdjhlcbcomdkaaGreatDoorV05
set_option linter.unusedVariables false
set_option linter.unusedSimpArgs false
namespace Go.Proofs.Rm
open Go.RowKit Go.Proofs.Heap Go.Proofs.Mem
def srcCell (s:Src) (i:Nat):Value:=
 if i=0 then .bool s.there else if i=1 then .int .i64 s.num else if i=2 then .int .i64 s.own else if i=3 then s.sv else .bool s.muted
def subCell (x:Sub) (i:Nat):Value:=
 if i=0 then .bool x.there else if i=1 then .bool x.paused else .int .i64 x.want
def roomCell (R:Room) (j:Nat):Value:=
 if j<9 then .string (str (R.names j)) else if j<54 then srcCell (R.src ((j-9) / 5)) ((j-9) % 5)
 else subCell (R.sub ((j-54) / 27) ((j-54) % 27 / 3)) ((j-54) % 3)
def u32s (l:List Int):List Value:=l.map (Value.int .u32)
structure RoomAt (w:World) (b:Nat) (R:Room):Prop where
 cells:∃ c,w.heap[b]?=some (.cells c 152)∧c.size=297∧∀ j,j<297→c[j]?=some (roomCell R j)
 rows:∀ n,n<9→Row w 66 (R.src n).sv (R.src n).ss.length (u32s (R.src n).ss)
theorem RoomAt.lt {w:World} {b:Nat} {R:Room} (h:RoomAt w b R):b<w.heap.size:=by
 obtain ⟨c,hc,_⟩:=h.cells
 rcases Nat.lt_or_ge b w.heap.size with h|h
 ·exact h
 ·rw [Array.getElem?_eq_none h] at hc;cases hc
theorem RoomAt.cell {w:World} {b:Nat} {R:Room} (h:RoomAt w b R) {j:Nat} (hj:j<297):w.cell? ⟨b,j,none⟩=some (roomCell R j):=by
 obtain ⟨c,hc,_,hall⟩:=h.cells
 simp only [World.cell?,hc]
 exact hall j hj
theorem RoomAt.unfrozen {w:World} {b:Nat} {R:Room} (h:RoomAt w b R) (j:Nat):w.frozen? ⟨b,j,none⟩=false:=by
 obtain ⟨c,hc,_,_⟩:=h.cells
 simp [World.frozen?,hc]
theorem RoomAt.fr {B:Nat} {S:Nat→Prop} {w w':World} {b:Nat} {R:Room} (h:RoomAt w b R) (hf:Fr B S w w') (hB:w.heap.size≤B) (hb:¬S b) (hS:∀ k c fr,S k→w.heap[k]?≠some (.cells c 66 fr)):RoomAt w' b R:=by
 have hlt:=h.lt
 obtain ⟨c,hc,hs,hall⟩:=h.cells
 exact ⟨⟨c,by rw [hf.block b (by omega) hb];exact hc,hs,hall⟩,fun n hn=>(h.rows n hn).fr hf hB hS⟩
theorem RoomAt.below {w w':World} {b:Nat} {R:Room} (h:RoomAt w b R) (hb:Below w.heap.size w w'):RoomAt w' b R:=
 h.fr (Fr.of_below NoB hb) (Nat.le_refl _) (fun x=>x) (fun _ _ _ h=>h.elim)
theorem RoomAt.other {w:World} {b:Nat} {R:Room} (h:RoomAt w b R):∀ k c fr,k=b→w.heap[k]?≠some (.cells c 66 fr):=by
 intro k c fr hk e
 subst hk
 obtain ⟨c',hc,_,_⟩:=h.cells
 rw [hc] at e
 injection e with e
 injection e with _ e _
 exact absurd e (by decide)
theorem RoomAt.set {w:World} {b:Nat} {R R':Room} (h:RoomAt w b R) {i:Nat} {v:Value} (hi:i<297) (hv:∀ j,j<297→roomCell R' j=if j=i then v else roomCell R j)
  (hr:∀ n,n<9→Row w 66 (R'.src n).sv (R'.src n).ss.length (u32s (R'.src n).ss)):RoomAt (w.setCell ⟨b,i,none⟩ v) b R':=by
 have ho:=h.other
 obtain ⟨c,hc,hs,hall⟩:=h.cells
 refine ⟨⟨c.setIfInBounds i v,?_,by rw [Array.size_setIfInBounds];exact hs,fun j hj=>?_⟩,fun n hn=>?_⟩
 ·simp [World.setCell,Array.getElem?_modify,hc]
 ·rw [hv j hj,Array.getElem?_setIfInBounds]
  by_cases hij:i=j
  ·subst hij
   rw [if_pos rfl,if_pos rfl,if_pos (by omega)]
  ·rw [if_neg hij,if_neg (fun e=>hij e.symm)]
   exact hall j hj
 ·exact (hr n hn).fr ((Fr.refl w.heap.size (· = b) w).setCell (Or.inr rfl) v) (Nat.le_refl _) ho
theorem rc_sub (R:Room) {n p i:Nat} (hn:n<9) (hp:p<9) (hi:i<3):roomCell R (54+n*27+p*3+i)=subCell (R.sub n p) i:=by
 unfold roomCell
 rw [if_neg (by omega),if_neg (by omega),show (54+n*27+p*3+i-54) / 27=n by omega,show (54+n*27+p*3+i-54) % 27 / 3=p by omega,show (54+n*27+p*3+i-54) % 3=i by omega]
theorem rc_src (R:Room) {n i:Nat} (hn:n<9) (hi:i<5):roomCell R (9+n*5+i)=srcCell (R.src n) i:=by
 unfold roomCell
 rw [if_neg (by omega),if_pos (by omega),show (9+n*5+i-9) / 5=n by omega,show (9+n*5+i-9) % 5=i by omega]
theorem RoomAt.subc {w:World} {b:Nat} {R:Room} (h:RoomAt w b R) {n p:Nat} (hn:n<9) (hp:p<9) :
  w.cell? ⟨b,54+n*27+p*3,none⟩=some (.bool (R.sub n p).there)∧w.cell? ⟨b,54+n*27+p*3+1,none⟩=some (.bool (R.sub n p).paused)∧w.cell? ⟨b,54+n*27+p*3+2,none⟩=some (.int .i64 (R.sub n p).want):=
 ⟨by rw [h.cell (by omega)];exact congrArg some (rc_sub R (i:=0) hn hp (by omega)),by rw [h.cell (by omega),rc_sub R hn hp (by omega)];rfl,by rw [h.cell (by omega),rc_sub R hn hp (by omega)];rfl⟩
theorem RoomAt.srcc {w:World} {b:Nat} {R:Room} (h:RoomAt w b R) {n:Nat} (hn:n<9) :
  w.cell? ⟨b,9+n*5,none⟩=some (.bool (R.src n).there)∧w.cell? ⟨b,9+n*5+1,none⟩=some (.int .i64 (R.src n).num)∧w.cell? ⟨b,9+n*5+2,none⟩=some (.int .i64 (R.src n).own)∧w.cell? ⟨b,9+n*5+3,none⟩=some (R.src n).sv∧w.cell? ⟨b,9+n*5+4,none⟩=some (.bool (R.src n).muted):=
 ⟨by rw [h.cell (by omega)];exact congrArg some (rc_src R (i:=0) hn (by omega)),by rw [h.cell (by omega),rc_src R hn (by omega)];rfl,by rw [h.cell (by omega),rc_src R hn (by omega)];rfl,by rw [h.cell (by omega),rc_src R hn (by omega)];rfl,by rw [h.cell (by omega),rc_src R hn (by omega)];rfl⟩
theorem RoomAt.namec {w:World} {b:Nat} {R:Room} (h:RoomAt w b R) {p:Nat} (hp:p<9):w.cell? ⟨b,p,none⟩=some (.string (str (R.names p))):=by
 rw [h.cell (by omega)];unfold roomCell;rw [if_pos hp]
theorem sub_setSub (R:Room) (n p:Nat) (x:Sub):(R.setSub n p x).sub n p=x:=by simp [Room.setSub]
theorem setSub_setSub (R:Room) (n p:Nat) (x y:Sub):(R.setSub n p x).setSub n p y=R.setSub n p y:=by
 unfold Room.setSub
 congr 1
 funext m q
 dsimp only
 split <;> rfl
theorem RoomAt.setSubCell {w:World} {b:Nat} {R:Room} (h:RoomAt w b R) {n p i:Nat} (hn:n<9) (hp:p<9) (hi:i<3) {x:Sub} {v:Value} (hx:∀ j,j<3→subCell x j=if j=i then v else subCell (R.sub n p) j) :
  RoomAt (w.setCell ⟨b,54+n*27+p*3+i,none⟩ v) b (R.setSub n p x):=by
 refine h.set (by omega) (fun j hj=>?_) h.rows
 by_cases h1:j<54
 ·unfold roomCell
  rw [if_neg (by omega:¬j=54+n*27+p*3+i)]
  by_cases h2:j<9
  ·rw [if_pos h2,if_pos h2];rfl
  ·rw [if_neg h2,if_neg h2,if_pos h1,if_pos h1];rfl
 ·unfold roomCell
  rw [if_neg (by omega:¬j<9),if_neg h1,if_neg (by omega:¬j<9),if_neg h1]
  by_cases h3:(j-54) / 27=n∧(j-54) % 27 / 3=p
  ·have e:(R.setSub n p x).sub ((j-54) / 27) ((j-54) % 27 / 3)=x:=by simp [Room.setSub,h3]
   rw [e,h3.1,h3.2,hx _ (by omega)]
   have:((j-54) % 3=i)↔(j=54+n*27+p*3+i):=by omega
   by_cases h4:(j-54) % 3=i
   ·rw [if_pos h4,if_pos (this.1 h4)]
   ·rw [if_neg h4,if_neg (fun e=>h4 (this.2 e))]
  ·have e:(R.setSub n p x).sub ((j-54) / 27) ((j-54) % 27 / 3)=R.sub ((j-54) / 27) ((j-54) % 27 / 3):=by simp [Room.setSub,h3]
   rw [e,if_neg (by omega)]
theorem RoomAt.setSub {w:World} {b:Nat} {R:Room} (h:RoomAt w b R) {n p:Nat} (hn:n<9) (hp:p<9) (x:Sub) :
  RoomAt (((w.setCell ⟨b,54+n*27+p*3,none⟩ (.bool x.there)).setCell ⟨b,54+n*27+p*3+1,none⟩ (.bool x.paused)).setCell ⟨b,54+n*27+p*3+2,none⟩ (.int .i64 x.want)) b (R.setSub n p x):=by
 have h1:=h.setSubCell hn hp (i:=0) (by omega) (x:={R.sub n p with there:=x.there}) (v:= .bool x.there) (by intro j hj;unfold subCell;by_cases h0:j=0 <;> simp [h0])
 have h2:=h1.setSubCell hn hp (i:=1) (by omega) (x:={R.sub n p with there:=x.there,paused:=x.paused}) (v:= .bool x.paused) (by
  intro j hj;rw [sub_setSub];unfold subCell;by_cases h0:j=0 <;> by_cases h1:j=1 <;> simp [h0,h1])
 have h3:=h2.setSubCell hn hp (i:=2) (by omega) (x:=x) (v:= .int .i64 x.want) (by
  intro j hj;rw [sub_setSub];unfold subCell;by_cases h0:j=0 <;> by_cases h1:j=1 <;> simp [h0,h1];omega)
 rw [setSub_setSub,setSub_setSub] at h3
 exact h3
theorem u32s_length (l:List Int):(u32s l).length=l.length:=List.length_map _
theorem u32s_one (l:List Int):∀ u∈u32s l,u.oneCell'=true:=by
 intro u hu
 obtain ⟨x,_,rfl⟩:=List.mem_map.1 hu
 rfl
theorem u32_open {w:World} {v:Value} {l:List Int} (h:Row w 66 v l.length (u32s l)) (hl:0<l.length):∃ g off cap,v = .slice (some ⟨g,off,none⟩) l.length cap∧l.length≤cap∧cap≤maxLen∧g<w.heap.size ∧
  ∀ j,j<l.length→w.cell? ⟨g,off+j,none⟩=some (.int .u32 (l.getD j 0)):=by
 exact Yx113
theorem u32_openR {w:World} {v:Value} {l:List Int} (h:RRow w v l.length (u32s l)) (hl:0<l.length):∃ g off cap,v = .slice (some ⟨g,off,none⟩) l.length cap∧l.length≤cap∧cap≤maxLen∧g<w.heap.size ∧
  ∀ j,j<l.length→w.cell? ⟨g,off+j,none⟩=some (.int .u32 (l.getD j 0)):=by
 exact Yx113
theorem elemInt:Elem Tryz.prog 72 3 1 8:=⟨Tryz.underlying72,⟨.int .i64 0,by kernel_rfl,rfl⟩,by decide⟩
theorem elemU32:Elem Tryz.prog 29 66 1 4:=⟨Tryz.underlying29,⟨.int .u32 0,by kernel_rfl,rfl⟩,by decide⟩
theorem elemTurn:Elem Tryz.prog 98 158 5 40:=⟨Tryz.underlying98,⟨.agg #[.int .i64 0,.int .i64 0,.int .i64 0,.int .i64 0,.int .u32 0],by kernel_rfl,rfl⟩,by decide⟩
def turnCells (t:Turn):List Value:=[.int .i64 t.kind,.int .i64 t.peer,.int .i64 t.source,.int .i64 t.layer,.int .u32 t.ssrc]
def turnAgg (t:Turn):Value:= .agg #[.int .i64 t.kind,.int .i64 t.peer,.int .i64 t.source,.int .i64 t.layer,.int .u32 t.ssrc]
abbrev TurnRow (w:World) (v:Value) (l:List Turn):Prop:=Row w 158 v l.length (l.flatMap turnCells)
def ints (l:List Nat):List Value:=l.map fun (n:Nat)=>Value.int .i64 (n:Int)
theorem row_new (w:World) (e:TypeId) (n:Nat) (xs:List Value) (hn:n≤maxLen):Row (w.alloc (.cells xs.toArray e)) e (.slice (some ⟨w.heap.size,0,none⟩) n n) n xs:=
 ⟨_,n,rfl,Nat.le_refl _,hn,(fun h=>by cases h),Or.inr ⟨_,0,xs.toArray,(0,0),rfl,(by show (w.heap.push _)[w.heap.size]?=_;simp),fun j _=>by simp⟩⟩
theorem row_new' (w:World) (e:TypeId) (n m:Nat) (xs:List Value) (hn:n≤maxLen) (hm:m=w.heap.size):Row (w.alloc (.cells xs.toArray e)) e (.slice (some ⟨m,0,none⟩) n n) n xs:=by
 subst hm;exact row_new w e n xs hn
end Go.Proofs.Rm
set_option linter.unusedSimpArgs false
namespace Go.Proofs.By
open Go.RowKit Go.Proofs.Heap
open Go.Proofs.Rm (TurnRow Turn Room RoomAt u32s turnCells)
theorem Row.frT {B:Nat} {S:Nat→Prop} {w w':World} {e:TypeId} {v:Value} {n:Nat} {xs:List Value} (h:Row w e v n xs) (hf:Fr B S w w') (hB:w.heap.size≤B) (hS:∀ k c fr,S k→w.heap[k]?≠some (.cells c e fr)):Row w' e v n xs:=h.fr hf hB hS
structure ItmV where
 i:Itm
 bv:Value
 gv:Value
 pv:Value
def itmvCells (x:ItmV):List Value:=[.int .i64 x.i.kind,.int .u32 x.i.ssrc,.int .u64 x.i.ntp,.int .u32 x.i.time,.int .u32 x.i.packets,.int .u32 x.i.octets,x.bv,x.gv,.int .u32 x.i.media,x.pv]
structure ItmR (w:World) (x:ItmV):Prop where
 b:Row w 228 x.bv x.i.blocks.length (x.i.blocks.flatMap blkCells)
 g:Row w 66 x.gv x.i.gone.length (u32s x.i.gone)
 p:Row w 226 x.pv x.i.pairs.length (x.i.pairs.flatMap pairCells)
structure ItmsV (w:World) (v:Value) (L:List ItmV):Prop where
 row:Row w 173 v L.length (L.flatMap itmvCells)
 each:∀ x∈L,ItmR w x
def ItmsRow (w:World) (v:Value) (l:List Itm):Prop:=∃ L:List ItmV,l=L.map (·.i)∧ItmsV w v L
theorem ItmR.below {w w':World} {x:ItmV} (h:ItmR w x) (hb:Below w.heap.size w w'):ItmR w' x:=⟨h.b.below hb,h.g.below hb,h.p.below hb⟩
theorem ItmsRow.below {w w':World} {v:Value} {l:List Itm} (h:ItmsRow w v l) (hb:Below w.heap.size w w'):ItmsRow w' v l:=by
 obtain ⟨L,h1,h2,h3⟩:=h
 exact ⟨L,h1,h2.below hb,fun x hx=>(h3 x hx).below hb⟩
theorem ItmsRow.nil (w:World):ItmsRow w (.slice none 0 0) []:=⟨[],rfl,Row.nil _ _,fun _ h=>by cases h⟩
def Apart (w:World) (S:Nat→Prop):Prop:=∀ k,S k→∃ c t fr,w.heap[k]?=some (.cells c t fr)∧t≠228∧t≠66∧t≠226∧t≠173∧t≠5∧t≠158∧t≠32
theorem Apart.ne {w:World} {S:Nat→Prop} (h:Apart w S) {e:TypeId} (he:e=228∨e=66∨e=226∨e=173∨e=5∨e=158∨e=32):∀ k c fr,S k→w.heap[k]?≠some (.cells c e fr):=by
 intro k c fr hk hc
 obtain ⟨c',t,fr',h1,h2⟩:=h k hk
 rw [h1] at hc
 injection hc with hc
 injection hc with _ hc
 subst hc
 obtain ⟨q1,q2,q3,q4,q5,q6,q7⟩:=h2
 rcases he with h|h|h|h|h|h|h
 ·exact q1 h
 ·exact q2 h
 ·exact q3 h
 ·exact q4 h
 ·exact q5 h
 ·exact q6 h
 ·exact q7 h
theorem ItmsRow.fr {w w':World} {v:Value} {l:List Itm} {S:Nat→Prop} (h:ItmsRow w v l) (hf:Fr w.heap.size S w w') (hS:Apart w S):ItmsRow w' v l:=by
 obtain ⟨L,h1,h2,h3⟩:=h
 exact ⟨L,h1,Row.fr h2 hf (Nat.le_refl _) (hS.ne (by simp)),fun x hx=>⟨Row.fr (h3 x hx).b hf (Nat.le_refl _) (hS.ne (by simp)),Row.fr (h3 x hx).g hf (Nat.le_refl _) (hS.ne (by simp)),Row.fr (h3 x hx).p hf (Nat.le_refl _) (hS.ne (by simp))⟩⟩
theorem Row.form {w:World} {e:TypeId} {v:Value} {n:Nat} {xs:List Value} (h:Row w e v n xs):∃ a c,v = .slice a n c:=by
 obtain ⟨a,c,h,_⟩:=h
 exact ⟨a,c,h⟩
theorem ItmsRow.form {w:World} {v:Value} {l:List Itm} (h:ItmsRow w v l):∃ a c,v = .slice a l.length c:=by
 obtain ⟨L,h1,h2,_⟩:=h
 obtain ⟨a,c,h⟩:=Row.form h2
 exact ⟨a,c,by rw [h,h1,List.length_map]⟩
def medCells (p:Pkt) (d:Dsc) (cv ev pv:Value):List Value:=[.bool p.marker,.int .i64 p.type,.int .u16 p.seq,.int .u32 p.time,.int .u32 p.ssrc,cv,.bool p.hasExt,.int .u16 p.profile,ev,pv,.int .i64 p.pad,.int .i64 d.layer,.bool d.key,.bool d.start,.int .u16 d.frame]
structure PktR (w:World) (p:Pkt) (cv ev pv:Value):Prop where
 c:Row w 66 cv p.csrc.length (u32s p.csrc)
 e:Row w 5 ev p.ext.length (bys p.ext)
 p:Row w 5 pv p.payload.length (bys p.payload)
theorem PktR.below {w w':World} {p:Pkt} {cv ev pv:Value} (h:PktR w p cv ev pv) (hb:Below w.heap.size w w'):PktR w' p cv ev pv:=⟨h.c.below hb,h.e.below hb,h.p.below hb⟩
theorem PktR.fr {w w':World} {p:Pkt} {cv ev pv:Value} {S:Nat→Prop} (h:PktR w p cv ev pv) (hf:Fr w.heap.size S w w') (hS:Apart w S):PktR w' p cv ev pv:=
 ⟨Row.fr h.c hf (Nat.le_refl _) (hS.ne (by simp)),Row.fr h.e hf (Nat.le_refl _) (hS.ne (by simp)),Row.fr h.p hf (Nat.le_refl _) (hS.ne (by simp))⟩
theorem PktR.nil (w:World):PktR w noPkt (.slice none 0 0) (.slice none 0 0) (.slice none 0 0):=⟨Row.nil _ _,Row.nil _ _,Row.nil _ _⟩
theorem PktR.form {w:World} {p:Pkt} {cv ev pv:Value} (h:PktR w p cv ev pv):(∃ a c,cv = .slice a p.csrc.length c)∧(∃ a c,ev = .slice a p.ext.length c)∧(∃ a c,pv = .slice a p.payload.length c):=⟨Row.form h.c,Row.form h.e,Row.form h.p⟩
def EvIn (w:World) (v:Value):Ev→Prop
 | .none=>v = .nilIface
 | .media p d=>∃ cv ev pv,v = .iface 97 (.agg (medCells p d cv ev pv).toArray)∧PktR w p cv ev pv
 | .feedback l=>∃ iv,v = .iface 213 (.agg #[iv])∧ItmsRow w iv l
theorem EvIn.below {w w':World} {v:Value} {e:Ev} (h:EvIn w v e) (hb:Below w.heap.size w w'):EvIn w' v e:=by
 cases e with
 | none=>exact h
 | media p d=>obtain ⟨cv,ev,pv,h1,h2⟩:=h;exact ⟨cv,ev,pv,h1,h2.below hb⟩
 | feedback l=>obtain ⟨iv,h1,h2⟩:=h;exact ⟨iv,h1,h2.below hb⟩
def tkCells (T:Taken) (cv ev pv iv tv:Value):List Value:=[.int .i64 T.adm.kind,.int .i64 T.adm.source,.int .i64 T.adm.epoch,.int .i64 T.adm.err]++medCells T.pkt T.dsc cv ev pv++[iv,tv,.int .i64 T.unknown]
structure TakenIn (w:World) (cs:List Value) (T:Taken):Prop where
 ex:∃ cv ev pv iv tv,cs=tkCells T cv ev pv iv tv∧PktR w T.pkt cv ev pv∧ItmsRow w iv T.items∧TurnRow w tv T.turns
theorem TakenIn.size {w:World} {cs:List Value} {T:Taken} (h:TakenIn w cs T):cs.length=22:=by
 obtain ⟨cv,ev,pv,iv,tv,rfl,_⟩:=h.ex
 rfl
theorem TakenIn.one {w:World} {cs:List Value} {T:Taken} (h:TakenIn w cs T):cs.toArray.all (·.oneCell')=true:=by
 obtain ⟨cv,ev,pv,iv,tv,rfl,h1,h2,h3⟩:=h.ex
 obtain ⟨⟨_,_,rfl⟩,⟨_,_,rfl⟩,⟨_,_,rfl⟩⟩:=h1.form
 obtain ⟨_,_,rfl⟩:=h2.form
 obtain ⟨_,_,rfl⟩:=Row.form h3
 kernel_rfl
theorem TakenIn.below {w w':World} {cs:List Value} {T:Taken} (h:TakenIn w cs T) (hb:Below w.heap.size w w'):TakenIn w' cs T:=by
 obtain ⟨cv,ev,pv,iv,tv,h1,h2,h3,h4⟩:=h.ex
 exact ⟨cv,ev,pv,iv,tv,h1,h2.below hb,h3.below hb,h4.below hb⟩
theorem TakenIn.fr {w w':World} {cs:List Value} {T:Taken} {S:Nat→Prop} (h:TakenIn w cs T) (hf:Fr w.heap.size S w w') (hS:Apart w S):TakenIn w' cs T:=by
 obtain ⟨cv,ev,pv,iv,tv,h1,h2,h3,h4⟩:=h.ex
 exact ⟨cv,ev,pv,iv,tv,h1,h2.fr hf hS,h3.fr hf hS,Row.fr h4 hf (Nat.le_refl _) (hS.ne (by simp))⟩
theorem TakenIn.refused (w:World) (k e:Int):TakenIn w (tkCells (refusedT k e) (.slice none 0 0) (.slice none 0 0) (.slice none 0 0) (.slice none 0 0) (.slice none 0 0)) (refusedT k e):=
 ⟨_,_,_,_,_,rfl,PktR.nil w,ItmsRow.nil w,Row.nil _ _⟩
structure DoorAt (w:World) (g b:Nat) (R:Room) (ep:Int):Prop where
 blk:w.heap[g]?=some (.cells #[.pointer (some ⟨b,0,none⟩),.int .i64 ep] 131 (0,0))
 room:RoomAt w b R
theorem DoorAt.cells {w:World} {g b:Nat} {R:Room} {ep:Int} (h:DoorAt w g b R ep):w.cell? ⟨g,0,none⟩=some (.pointer (some ⟨b,0,none⟩))∧w.cell? ⟨g,1,none⟩=some (.int .i64 ep)∧w.frozen? ⟨g,1,none⟩=false∧g<w.heap.size:=
 ⟨cell_of h.blk 0,cell_of h.blk 1,frozen_of h.blk 1,hp_lt h.blk⟩
theorem DoorAt.below {w w':World} {g b:Nat} {R:Room} {ep:Int} (h:DoorAt w g b R ep) (hb:Below w.heap.size w w'):DoorAt w' g b R ep:=⟨by rw [hb.block g (hp_lt h.blk)];exact h.blk,h.room.below hb⟩
theorem DoorAt.apart {w:World} {g b:Nat} {R:Room} {ep:Int} (h:DoorAt w g b R ep):Apart w (fun k=>k=b∨k=g):=by
 rintro k (rfl|rfl)
 ·obtain ⟨c,hc,_,_⟩:=h.room.cells
  exact ⟨c,_,_,hc,by decide,by decide,by decide,by decide,by decide,by decide,by decide⟩
 ·exact ⟨_,_,_,h.blk,by decide,by decide,by decide,by decide,by decide,by decide,by decide⟩
end Go.Proofs.By
set_option linter.unusedSimpArgs false
namespace Go.Proofs.By
open Go.RowKit Go.Proofs.Heap
def prOf (n:Nat):Int × Int:=(((n / 65536:Nat):Int),((n % 65536:Nat):Int))
set_option maxRecDepth 100000 in
set_option maxHeartbeats 2000000 in
theorem parts_other (v:Value) (b:List UInt8) (k:Nat) (w:World) (hv:BRow w v b) (h4:b.length % 4=0) (hb:b.length≤1000) (hb4:12≤b.length) (hk:k≠203) (hk2:k<256) :
  Calls Tryz.prog 172 #[v,.int .i64 (k:Int)] w fun e w'=>(∃ a,e = .returned a∧ItmIn w' a (parts b k))∧Below w.heap.size w w':=by
 have HV:Hid (∀ w',Below w.heap.size w w'→BRow w' v b):=fun w' h=>hv.below h
 have hlen:=hv.len
 obtain ⟨a,c,rfl,hcc,-⟩:=id hv
 obtain ⟨m,hm⟩:∃ m,b.length=12+4*m:=⟨(b.length-12) / 4,by omega⟩
 have HW:Hid (∀ j,j<m→((iwords b 12).take (j+1)).map prOf=((iwords b 12).take j).map prOf++[prOf (get b (12+4*(j:Int)) 4)]):=fun j hj=>by
  rw [iwords_at b 12 j (by omega),List.map_append,nat_add];rfl
 have HWL:Hid ((iwords b 12).length=m):=by show _=_;rw [iwords_len];omega
 have HWT:Hid (∀ j,j≤m→(((iwords b 12).take j).map prOf).length=j):=fun j hj=>by rw [List.length_map,List.length_take,HWL.out];omega
 have HE:Hid (parts b k={noItm with kind:=k,ssrc:=get b 4 4,media:=get b 8 4,pairs:=(iwords b 12).map prOf}):=by show _=_;unfold parts;rw [if_neg hk];rfl
 have hx4:get b 4 4<4294967296:=get_lt b 4 4 4 (by decide)
 have hx8:get b 8 4<4294967296:=get_lt b 8 4 4 (by decide)
 have C4:=Lib.hid (cnumber_any _ b 4 ((w.alloc (.cells (itmCells 0 0 0 (.slice none 0 0) (.slice none 0 0)) 173)).alloc (.cells (itmCells k 0 0 (.slice none 0 0) (.slice none 0 0)) 173)) (HV.out _ (PB.start w k 0 0).bel))
 have C8:=Lib.hid (cnumber_any _ b 8 ((w.alloc (.cells (itmCells 0 0 0 (.slice none 0 0) (.slice none 0 0)) 173)).alloc (.cells (itmCells k 0 0 (.slice none 0 0) (.slice none 0 0)) 173)) (HV.out _ (PB.start w k 0 0).bel))
 have bk:((k:Int) == 203)=false:=by rw [beq_eq_false_iff_ne];omega
 have bk2:((k:Int) != 203)=true:=by rw [bne_iff_ne];omega
 have CN:Hid (∀ w' (j:Nat),Below w.heap.size w w'→Calls Tryz.prog 183 #[.slice a b.length c,.int .i64 (12+4*(j:Int))] w' fun e w1=>e = .returned (.int .u32 (get b (12+4*(j:Int)) 4:Nat))∧w'=w1):=fun w' j h=>cnumber_any _ b _ w' (HV.out w' h)
 have HP0:=Lib.hid (PB.start w k (get b 4 4:Nat) (get b 8 4:Nat))
 clear hv HV
 rw [hm]
 rw [hm] at CN C4 C8
 have hm1000:m≤250:=by omega
 generalize parts b k=X at *
 generalize get b 4 4=s4 at *
 generalize get b 8 4=s8 at *
 clear hm hlen h4 hb hb4 hcc hk
 go_enter Tryz.func172,Tryz.ntmps172
 go_wp2_with fail
 refine C4.out.mono ?_
 rintro e w' ⟨rfl,rfl⟩
 go_wp2_with fail
 refine C8.out.mono ?_
 rintro e w' ⟨rfl,rfl⟩
 go_wp2_with fail
 go_loopw [6] (fun i w'=>∃ (j:Nat) (pv:Value),j≤m∧i = .int .i64 (12+4*(j:Int))∧PB w w' k s4 s8 (.slice none 0 0) pv∧w'.ownsRow (w.heap.size+2) 226 2 pv j ((((iwords b 12).take j).map prOf).flatMap pairCells)) (fun i _=>12+4*m-(intOf i).toNat)
 case atStart=>exact ⟨0,.slice none 0 0,Nat.zero_le _,rfl,HP0.out,World.ownsRow_nil _ _ _ _⟩
 case round=>
  clear HP0
  obtain ⟨j,gv,hj,rfl,hpb,hown⟩:=hrel
  have HPB:=Lib.hid hpb
  have HOWN:=Lib.hid hown
  have hsz:=hpb.size
  have c9:wr.cell? ⟨w.heap.size+1,9,none⟩=some gv:=hpb.cell 9
  clear hpb hown
  by_cases hjm:j<m
  ·have CN1:=Lib.hid (CN.out wr j HPB.out.bel)
   have HW1:=Lib.hid (HW.out j hjm)
   have hn:get b (12+4*(j:Int)) 4<4294967296:=get_lt b _ 4 4 (by decide)
   generalize get b (12+4*(j:Int)) 4=n at *
   have HPR:Hid (pairCells (prOf n)=[.int .u16 ((n:Int) / 65536),.int .u16 (IntKind.u16.wrap (n:Int))]):=by
    show _=_
    have h1:IntKind.u16.wrap (n:Int)=((n % 65536:Nat):Int):=by simp [IntKind.wrap,IntKind.bits,IntKind.signed]
    rw [h1]
    show [Value.int .u16 ((n / 65536:Nat):Int),Value.int .u16 ((n % 65536:Nat):Int)]=_
    rw [Int.natCast_ediv];rfl
   go_wp2_with (first|(go_at_call 183;refine CN1.out.mono ?_;rintro e w' ⟨rfl,rfl⟩)|(at_builtin;refine wpList_app rfl (.tmp 36) (.tmp 43) 171 rfl (w.heap.size+2) elemPair gv j _ rfl (HOWN.out.alloc _) _ 1 [.int .u16 ((n:Int) / 65536),.int .u16 (IntKind.u16.wrap (n:Int))] rfl (rowNew wr 226 1 [.int .u16 ((n:Int) / 65536),.int .u16 (IntKind.u16.wrap (n:Int))] (by decide)) rfl (by intro u hu;simp at hu;rcases hu with rfl|rfl <;> rfl) (by omega) (by omega) Yo16 (fun v' w5 HO HG=>?_);have HPB5:=Lib.hid ((HPB.out.below (below_alloc wr (.cells #[.int .u16 ((n:Int) / 65536),.int .u16 (IntKind.u16.wrap (n:Int))] 226))).grown HG.out (owns_ge HOWN.out));have hz5:=HPB5.out.size;have f9:=HPB5.out.frozen 9;have c95:w5.cell? ⟨w.heap.size+1,9,none⟩=some gv:=HPB5.out.cell 9;obtain ⟨va,vc,hva,-,-⟩:=Row.of_owns HO.out;subst hva))
   go_roundw
   case rel=>exact ⟨j+1,_,by omega,by go_num,HPB5.out.setP _,by rw [HW1.out];exact owns_set (by have:=HO.out;rw [←HPR.out] at this;rw [List.flatMap_append];exact this) (by omega) _⟩
   case measure=>simp [intOf];omega
  ·obtain rfl:j=m:=by omega
   have hrow:=Row.of_owns HOWN.out
   obtain ⟨va,vc,rfl,-,-⟩:=id hrow
   have e0:=HPB.out.cell 0
   have e1:=HPB.out.cell 1
   have e2:=HPB.out.cell 2
   have e3:=HPB.out.cell 3
   have e4:=HPB.out.cell 4
   have e5:=HPB.out.cell 5
   have e6:=HPB.out.cell 6
   have e7:=HPB.out.cell 7
   have e8:=HPB.out.cell 8
   simp only [itmCells,List.getElem?_toArray,List.getElem?_cons_zero,List.getElem?_cons_succ] at e0 e1 e2 e3 e4 e5 e6 e7 e8
   have HROW:=Lib.hid hrow
   have g0:=fun k=>HPB.out.frozen0 k
   have g00:=g0 0
   have z0:=HPB.out.cell0 0
   have g10:=g0 1
   have z1:=HPB.out.cell0 1
   have g20:=g0 2
   have z2:=HPB.out.cell0 2
   have g30:=g0 3
   have z3:=HPB.out.cell0 3
   have g40:=g0 4
   have z4:=HPB.out.cell0 4
   have g50:=g0 5
   have z5:=HPB.out.cell0 5
   have g60:=g0 6
   have z6:=HPB.out.cell0 6
   have g70:=g0 7
   have z7:=HPB.out.cell0 7
   have g80:=g0 8
   have z8:=HPB.out.cell0 8
   have g90:=g0 9
   have z9:=HPB.out.cell0 9
   simp only [itmCells,List.getElem?_toArray,List.getElem?_cons_zero,List.getElem?_cons_succ] at z0 z1 z2 z3 z4 z5 z6 z7 z8 z9
   clear hrow g0
   have HT:Hid ((iwords b 12).take j=iwords b 12):=List.take_of_length_le (by rw [HWL.out];exact Nat.le_refl _)
   have HGL:Hid (((iwords b 12).map prOf).length=j):=by show _=_;rw [List.length_map];exact HWL.out
   have HK:Hid (∀ w',Fr wr.heap.size (· = w.heap.size) wr w'→(Row w' 226 (.slice va j vc) j ((((iwords b 12).take j).map prOf).flatMap pairCells)∧Below w.heap.size w w')):=fun w' hf=>
    ⟨HROW.out.fr hf (Nat.le_refl _) (fun k c' fr hk e=>by subst hk;rw [HPB.out.blk0] at e;injection e with e;injection e with _ e _;exact absurd e (by decide)),HPB.out.bel.trans (Fr.below (hf.mono (Nat.le_of_lt (Nat.lt_trans (Nat.lt_succ_self _) hsz)) (fun k hk hs=>by have hs:k=w.heap.size:=hs;omega)))⟩
   go_wp2
   refine bodyPost_ret (v:= .agg #[.int .i64 k,.int .u32 s4,.int .u64 0,.int .u32 0,.int .u32 0,.int .u32 0,.slice none 0 0,.slice none 0 0,.int .u32 s8,.slice va j vc]) (by simp [results,Tryz.results172,go_sem,z0,z1,z2,z3,z4,z5,z6,z7,z8,z9]) rfl ⟨⟨_,rfl,?_⟩,?_⟩
   ·have h:=HK.out _ (fr10 wr w.heap.size (.int .i64 k) (.int .u32 s4) (.int .u64 0) (.int .u32 0) (.int .u32 0) (.int .u32 0) (.slice none 0 0) (.slice none 0 0) (.int .u32 s8) (.slice va j vc))
    rw [HT.out] at h
    refine ⟨.slice none 0 0,.slice none 0 0,.slice va j vc,by rw [HE.out];rfl,by rw [HE.out];exact Row.nil _ _,by rw [HE.out];exact Row.nil _ _,?_⟩
    rw [HE.out]
    show Row _ _ _ ((iwords b 12).map prOf).length _
    rw [HGL.out]
    with_reducible exact h.1
   ·have h:=HK.out _ (fr10 wr w.heap.size (.int .i64 k) (.int .u32 s4) (.int .u64 0) (.int .u32 0) (.int .u32 0) (.int .u32 0) (.slice none 0 0) (.slice none 0 0) (.int .u32 s8) (.slice va j vc))
    with_reducible exact h.2
end Go.Proofs.By
set_option linter.unusedSimpArgs false
namespace Go.Proofs.By
open Go.RowKit Go.Proofs.Heap
set_option maxRecDepth 100000 in
set_option maxHeartbeats 2000000 in
theorem reportGet_err (v:Value) (b:List UInt8) (w:World) (hv:BRow w v b) (h0:(right b).2≠0) :
  Calls Tryz.prog 170 #[v] w fun e w'=>(∃ a,e = .returned (.tuple #[a,.int .i64 (reportGet b).1.2,.int .i64 (reportGet b).2])∧ItmIn w' a (reportGet b).1.1)∧Below w.heap.size w w':=by
 have HX:Hid (reportGet b=((noItm,0),(right b).2)):=by show _=_;unfold reportGet;rw [if_pos h0]
 have C:=fun w1 h=>right_any v b w1 (hv.below (h:Below w.heap.size w w1))
 have HC:=Lib.hid C
 obtain ⟨a,c,rfl,hcc,-⟩:=id hv
 clear C hv
 have bl:((right b).2 != 0)=true:=by rw [bne_iff_ne];exact h0
 have bl2:((right b).2 == 0)=false:=by rw [beq_eq_false_iff_ne];exact h0
 generalize reportGet b=X at *
 generalize right b=Y at *
 go_enter Tryz.func170,Tryz.ntmps170
 go_wp2_with fail
 refine (HC.out _ (below_alloc _ _)).mono ?_
 rintro e w2 ⟨rfl,hb2⟩
 have y0:=hb2.block w.heap.size Yo11
 rw [heap_new] at y0
 have zz:w.heap.size+1≤w2.heap.size:=by have h:=hb2.size;have h:(w.heap.push _).size≤w2.heap.size:=h;rw [Array.size_push] at h;exact h
 have z1:=cell_of y0 0
 have z2:=cell_of y0 1
 have z3:=cell_of y0 2
 have z4:=cell_of y0 3
 have z5:=cell_of y0 4
 have z6:=cell_of y0 5
 have z7:=cell_of y0 6
 have z8:=cell_of y0 7
 have z9:=cell_of y0 8
 have z10:=cell_of y0 9
 simp only [List.getElem?_toArray,List.getElem?_cons_zero,List.getElem?_cons_succ] at z1 z2 z3 z4 z5 z6 z7 z8 z9 z10
 have hself:=fun (R:World→Prop) (h:R w2)=>(by rw [setRow_self _ _ _ _ _ y0];exact h:R (w2.setRow w.heap.size Yz1a))
 have HS:=Lib.hid hself
 clear hself HC
 go_wp2_with (with_reducible refine store_at 173 (.tmp 2) (.tmp 14) rfl ?_;go_loud (refine store_rowTo2 rfl 173 _ _ rfl rfl w.heap.size Yz1a rfl rfl 173 _ y0 Yo3 Yo3 Yo3 ?_;refine HS.out _ ?_))
 refine bodyPost_ret (v:= .tuple #[.agg Yz1a,.int .i64 0,.int .i64 Y.2]) (by simp [results,Tryz.results170,go_sem,z1,z2,z3,z4,z5,z6,z7,z8,z9,z10]) rfl ⟨⟨_,by rw [HX.out];rfl,?_⟩,?_⟩
 ·exact ⟨.slice none 0 0,.slice none 0 0,.slice none 0 0,by rw [HX.out];rfl,by rw [HX.out];exact Row.nil _ _,by rw [HX.out];exact Row.nil _ _,by rw [HX.out];exact Row.nil _ _⟩
 ·have h5:=hb2.mono (show w.heap.size≤(w.heap.push _).size by rw [Array.size_push];exact Nat.le_succ _)
  exact (below_alloc w _).trans h5
end Go.Proofs.By
set_option linter.unusedSimpArgs false
namespace Go.Proofs.By
open Go.RowKit Go.Proofs.Heap
structure RB (w w':World) (k:Nat) (v:Value) (p:Nat) (cs:List Value):Prop where
 bel:Below w.heap.size w w'
 blk:w'.heap[w.heap.size]?=some (.cells cs.toArray 173)
 eye:EyeAt w' k v p
 lt:w.heap.size<k
theorem RB.klt {w w':World} {k:Nat} {v:Value} {p:Nat} {cs:List Value} (h:RB w w' k v p cs):k<w'.heap.size:=h.eye.lt
theorem RB.cell {w w':World} {k:Nat} {v:Value} {p:Nat} {cs:List Value} (h:RB w w' k v p cs) (j:Nat):w'.cell? ⟨w.heap.size,j,none⟩=cs[j]?:=by
 rw [cell_of h.blk j];exact List.getElem?_toArray
theorem RB.frozen {w w':World} {k:Nat} {v:Value} {p:Nat} {cs:List Value} (h:RB w w' k v p cs) (j:Nat):w'.frozen? ⟨w.heap.size,j,none⟩=false:=frozen_of h.blk j
theorem RB.move {w w1 w':World} {k:Nat} {v:Value} {p q:Nat} {cs:List Value} (h:RB w w1 k v p cs) (he:EyeAt w' k v q) (hf:Fr w1.heap.size (· = k) w1 w'):RB w w' k v q cs:=by
 have hk:=h.klt
 have hl:=h.lt
 refine ⟨h.bel.trans (Fr.below (hf.mono (show w.heap.size≤w1.heap.size by omega) (fun j hj hs=>by have hs:j=k:=hs;omega))),?_,he,hl⟩
 rw [hf.block w.heap.size (by omega) (fun hs=>by have hs:w.heap.size=k:=hs;omega)]
 exact h.blk
theorem RB.below {w w1 w':World} {k:Nat} {v:Value} {p:Nat} {cs:List Value} (h:RB w w1 k v p cs) (hb:Below w1.heap.size w1 w'):RB w w' k v p cs:=by
 have hk:=h.klt
 have hl:=h.lt
 refine ⟨h.bel.trans (hb.mono (by omega)),?_,?_,hl⟩
 ·rw [hb.block w.heap.size (by omega)];exact h.blk
 ·show w'.heap[k]?=_
  rw [hb.block k hk];exact h.eye
theorem RB.set {w w':World} {k:Nat} {v:Value} {p:Nat} {cs:List Value} (h:RB w w' k v p cs) (j:Nat) (u:Value):RB w (w'.setCell ⟨w.heap.size,j,none⟩ u) k v p (cs.set j u):=by
 have hl:=h.lt
 have h0:=h.blk
 refine ⟨h.bel.setCell (p:=⟨w.heap.size,j,none⟩) (Nat.le_refl _) u,?_,?_,hl⟩
 ·simp only [World.setCell,Array.getElem?_modify,h0,if_true,Option.map_some]
  simp
 ·show (w'.setCell ⟨w.heap.size,j,none⟩ u).heap[k]?=_
  simp only [World.setCell,Array.getElem?_modify]
  rw [if_neg (by omega)];exact h.eye
theorem RB.grown {w w1 w':World} {k:Nat} {v:Value} {p:Nat} {cs:List Value} (h:RB w w1 k v p cs) {row:Option Nat} (hg:w1.grownBy w' row) (hr:∀ j,row=some j→k<j):RB w w' k v p cs:=by
 have hk:=h.klt
 have hl:=h.lt
 refine ⟨h.bel.trans ⟨hg.os,hg.tape,hg.output,hg.size,fun i hi=>hg.block i (by omega) (fun e=>by have:=hr i e.symm;omega)⟩,?_,?_,hl⟩
 ·rw [hg.block w.heap.size (by omega) (fun e=>by have:=hr _ e.symm;omega)];exact h.blk
 ·show w'.heap[k]?=_
  rw [hg.block k hk (fun e=>by have:=hr _ e.symm;omega)];exact h.eye
end Go.Proofs.By
set_option linter.unusedSimpArgs false
namespace Go.Proofs.By
open Go.RowKit Go.Proofs.Heap
theorem right_ok {b:List UInt8} (h:(right b).2=0):4≤b.length∧(at8 b 1=200∨at8 b 1=201)∧at8 b 0 % 32≤15∧(right b).1=rsize (at8 b 1) (at8 b 0 % 32)∧rsize (at8 b 1) (at8 b 0 % 32)≤b.length:=by
 unfold right at h ⊢
 split at h
 ·cases h
 rename_i h1
 rw [if_neg h1]
 split at h
 ·cases h
 rename_i h2
 rw [if_neg h2]
 split at h
 ·cases h
 rename_i h3
 rw [if_neg h3]
 split at h
 ·cases h
 rename_i h4
 rw [if_neg h4]
 split at h
 ·cases h
 rename_i h5
 rw [if_neg h5]
 exact ⟨by omega,by omega,by omega,rfl,by omega⟩
end Go.Proofs.By
set_option linter.unusedSimpArgs false
namespace Go.Proofs.By
open Go.RowKit Go.Proofs.Heap
theorem elemBlk:Elem Tryz.prog 170 228 7 28:=⟨Tryz.underlying170,⟨.agg #[.int .u32 0,.int .u8 0,.int .u32 0,.int .u32 0,.int .u32 0,.int .u32 0,.int .u32 0],by kernel_rfl,rfl⟩,by decide⟩
theorem step_row {P:Program} {ops:Array Oper} {o:Oper} {a:Act} {w:World} {K:Act→World→Prop} {Q:Exit→Act→World→Prop} {E':Prop} (hgd:o.guard=none) (ty:TypeId) (x y:Operand) (ho:o.op = .store ty x y) (hd:o.dst=none)
  (g:Nat) (cells:Array Value) (hx:a.eval x = .pointer (some ⟨g,0,none⟩)) (hy:a.eval y = .agg cells)
  (t:TypeId) (old:Array Value) (hg:w.heap[g]?=some (.cells old t (0,0))) (hi:(P.info? ty).map (·.size)=some cells.size)
  (hold:old.size=cells.size) (h1:cells.all (·.oneCell')=true) (h:K a (w.setRow g cells)) :
  if Region.wanted o (yielded ops a.tmps)=true then Oper.wp P o a w K Q else E':=by
 have hw:Region.wanted o (yielded ops a.tmps)=true:=by simp [Region.wanted,hgd]
 rw [if_pos hw]
 exact Go.wp_store_row ty x y ho g cells hx hy t old hg hi hold h1 (by rw [hd];exact h)
theorem RB.row {w w':World} {k:Nat} {v:Value} {p:Nat} {cs:List Value} (h:RB w w' k v p cs) (cs':List Value):RB w (w'.setRow w.heap.size cs'.toArray) k v p cs':=by
 have hl:=h.lt
 have he:∀ j,j≠w.heap.size→(w'.setRow w.heap.size cs'.toArray).heap[j]?=w'.heap[j]?:=fun j hj=>by
  simp only [World.setRow,Array.getElem?_modify]
  rw [if_neg (fun e=>hj e.symm)]
 refine ⟨⟨h.bel.os,h.bel.tape,h.bel.output,by simpa [World.setRow] using h.bel.size,fun j hj=>by rw [he j (by omega)];exact h.bel.block j hj⟩,setRow_heap _ _ _ _ _ _ h.blk,?_,hl⟩
 show (w'.setRow _ _).heap[k]?=_
 rw [he k (by omega)];exact h.eye
structure RL (w w':World) (k:Nat) (v:Value) (p:Nat) (cs:List Value) (bv:Value) (j:Nat) (xs:List Value):Prop where
 rb:RB w w' k v p cs
 own:w'.ownsRow (k+1) 228 7 bv j xs
theorem RL.move {w w1 w':World} {k:Nat} {v:Value} {p q:Nat} {cs:List Value} {bv:Value} {j:Nat} {xs:List Value} (h:RL w w1 k v p cs bv j xs) (he:EyeAt w' k v q) (hf:Fr w1.heap.size (· = k) w1 w'):RL w w' k v q cs bv j xs:=
 ⟨h.rb.move he hf,owns_at h.own fun i hi hlt=>hf.block i hlt (fun hs=>by have hs:i=k:=hs;omega)⟩
theorem RL.below {w w1 w':World} {k:Nat} {v:Value} {p:Nat} {cs:List Value} {bv:Value} {j:Nat} {xs:List Value} (h:RL w w1 k v p cs bv j xs) (hb:Below w1.heap.size w1 w'):RL w w' k v p cs bv j xs:=
 ⟨h.rb.below hb,owns_bel h.own hb⟩
theorem RL.other {w w1:World} {k:Nat} {v:Value} {p:Nat} {cs:List Value} {bv:Value} {j:Nat} {xs:List Value} (h:RL w w1 k v p cs bv j xs) {g o:Nat} {c:Array Value} {f:Nat × Nat} (hg:w1.heap[g]?=some (.cells c 228 f)) (hk:k<g) (hb:∀ i,bv.ownBlock=some i→i≠g) (u:Value):RL w (w1.setCell ⟨g,o,none⟩ u) k v p cs bv j xs:=by
 have hl:=h.rb.lt
 refine ⟨⟨h.rb.bel.setCell (p:=⟨g,o,none⟩) (by show w.heap.size≤g;omega) u,?_,?_,hl⟩,?_⟩
 ·rw [RowKit.Below.heap_setCell _ _ _ _ (by show w.heap.size≠g;omega)];exact h.rb.blk
 ·show (w1.setCell _ _).heap[k]?=_
  rw [RowKit.Below.heap_setCell _ _ _ _ (by show k≠g;omega)];exact h.rb.eye
 ·obtain ⟨h1,h2⟩:=h.own
  refine ⟨h1,?_⟩
  rcases h2 with h2|⟨g2,cap,cur,hv,hg2,hh,r⟩
  ·exact Or.inl h2
  ·have hne:g2≠g:=hb g2 (by rw [hv];rfl)
   exact Or.inr ⟨g2,cap,cur,hv,hg2,by rw [RowKit.Below.heap_setCell _ _ _ _ (by show g2≠g;exact hne)];exact hh,r⟩
theorem RL.grown {w w1 w':World} {k:Nat} {v:Value} {p:Nat} {cs:List Value} {bv:Value} {j:Nat} {xs:List Value} (h:RL w w1 k v p cs bv j xs) (hg:w1.grownBy w' bv.ownBlock):RB w w' k v p cs:=
 h.rb.grown hg (fun i hi=>by have:=owns_ge h.own i hi;omega)
theorem RL.word {w w1:World} {k:Nat} {v:Value} {b:List UInt8} {p:Nat} {cs:List Value} {bv:Value} {j:Nat} {xs:List Value} (h:RL w w1 k v p cs bv j xs) (hv:∀ w',Below w.heap.size w w'→BRow w' v b) (hp:p≤100000) :
  Calls Tryz.prog 180 #[.pointer (some ⟨k,0,none⟩)] w1 fun e w'=>e = .returned (.int .u32 (get b p 4:Nat))∧RL w w' k v (p+4) cs bv j xs∧Fr w1.heap.size (· = k) w1 w':=
 (eword_any k v b p w1 h.rb.eye (hv _ h.rb.bel) hp).mono fun _ _ ⟨h1,h2,h3⟩=>⟨h1,h.move h2 h3,h3⟩
theorem RL.get {w w1:World} {k:Nat} {v:Value} {b:List UInt8} {p:Nat} {cs:List Value} {bv:Value} {j:Nat} {xs:List Value} (h:RL w w1 k v p cs bv j xs) (hv:∀ w',Below w.heap.size w w'→BRow w' v b) (hp:p≤100000) (q:Nat) (hq:q≤100) :
  Calls Tryz.prog 181 #[.pointer (some ⟨k,0,none⟩),.int .i64 (q:Int)] w1 fun e w'=>e = .returned (.int .u64 (get b p q:Nat))∧RL w w' k v (p+q) cs bv j xs∧Fr w1.heap.size (· = k) w1 w':=
 (eget_any k v b p q w1 h.rb.eye (hv _ h.rb.bel) hp hq).mono fun _ _ ⟨h1,h2,h3⟩=>⟨h1,h.move h2 h3,h3⟩
theorem heap_lt {w:World} {g:Nat} {o:Obj} (h:w.heap[g]?=some o):g<w.heap.size:=by
 rcases Nat.lt_or_ge g w.heap.size with h1|h1
 ·exact h1
 ·rw [Array.getElem?_eq_none h1] at h;cases h
theorem fr_blk {w1 w':World} {k g:Nat} {o:Obj} (hf:Fr w1.heap.size (· = k) w1 w') (h:w1.heap[g]?=some o) (hne:k<g):w'.heap[g]?=some o:=by
 rw [hf.block g (heap_lt h) (fun hs=>by have hs:g=k:=hs;omega)];exact h
theorem blk_set {w:World} {g:Nat} {c:Array Value} {t:TypeId} {f:Nat × Nat} (h:w.heap[g]?=some (.cells c t f)) (o:Nat) (u:Value):(w.setCell ⟨g,o,none⟩ u).heap[g]?=some (.cells (c.setIfInBounds o u) t f):=by
 simp [World.setCell,Array.getElem?_modify,h]
theorem RB.word {w w1:World} {k:Nat} {v:Value} {b:List UInt8} {p:Nat} {cs:List Value} (h:RB w w1 k v p cs) (hv:∀ w',Below w.heap.size w w'→BRow w' v b) (hp:p≤100000) :
  Calls Tryz.prog 180 #[.pointer (some ⟨k,0,none⟩)] w1 fun e w'=>e = .returned (.int .u32 (get b p 4:Nat))∧RB w w' k v (p+4) cs∧Fr w1.heap.size (· = k) w1 w':=
 (eword_any k v b p w1 h.eye (hv _ h.bel) hp).mono fun _ _ ⟨h1,h2,h3⟩=>⟨h1,h.move h2 h3,h3⟩
theorem RB.get {w w1:World} {k:Nat} {v:Value} {b:List UInt8} {p:Nat} {cs:List Value} (h:RB w w1 k v p cs) (hv:∀ w',Below w.heap.size w w'→BRow w' v b) (hp:p≤100000) (q:Nat) (hq:q≤100) :
  Calls Tryz.prog 181 #[.pointer (some ⟨k,0,none⟩),.int .i64 (q:Int)] w1 fun e w'=>e = .returned (.int .u64 (get b p q:Nat))∧RB w w' k v (p+q) cs∧Fr w1.heap.size (· = k) w1 w':=
 (eget_any k v b p q w1 h.eye (hv _ h.bel) hp hq).mono fun _ _ ⟨h1,h2,h3⟩=>⟨h1,h.move h2 h3,h3⟩
theorem RL.set {w w':World} {k:Nat} {v:Value} {p:Nat} {cs:List Value} {bv:Value} {j:Nat} {xs:List Value} (h:RL w w' k v p cs bv j xs) (i:Nat) (u:Value):RL w (w'.setCell ⟨w.heap.size,i,none⟩ u) k v p (cs.set i u) bv j xs:=
 ⟨h.rb.set i u,owns_set h.own (by have:=h.rb.lt;omega) u⟩
end Go.Proofs.By
namespace Go.Proofs.Heap
open Go Go.RowKit
section
variable {P:Program}
theorem run_app {w:World} (t ty:TypeId) (base:Nat) {e:TypeId} {size bytes:Nat} (E:Elem P t e size bytes) (v:Value) (n:Nat) (xs:List Value) (hown:w.ownsRow base e size v n xs)
  (vx:Value) (m:Nat) (news:List Value) (hrow:Row w e vx m news) (hl:news.length=m*size) (h1:∀ u∈news,u.oneCell'=true)
  (hbytes:(n+m)*bytes≤140737488355328) (h63:n+m≤9223372036854775807) (hbase:base≤w.heap.size) :
  ∃ v' w',(Builtin.append_ #[t,t] ty #[v,vx]).run P w = .ok v' w'∧w'.ownsRow base e size v' (n+m) (xs++news)∧w.grownBy w' v.ownBlock:=by
 obtain ⟨z,hinfo,hzs⟩:=E.info
 obtain ⟨i,hi,hz,hsize,hby⟩:=info_parts hinfo
 obtain ⟨ad,cap,hv,_,_,h0,hr⟩:=hrow
 subst hv
 have h63':n+m≤maxLen:=by unfold maxLen;omega
 cases ad with
 | none=>
  exact Yx102
 | some ad=>
  obtain ⟨v',w',hrun,h2,h3,_⟩:=run_append_own w base t ty e i z size bytes E.ht hi hz hsize hby hzs E.pos v n xs hown ad m cap news hl (by
   intro j u hu
   rcases hr with hr|⟨b,off,c,fr,hab,hb,hc⟩
   ·subst hr;simp at hu
   ·cases hab
    have hj:j<news.length:=(List.getElem?_eq_some_iff.1 hu).1
    have:=hc j hj
    have hadd:(⟨b,off,none⟩:Addr).add j=⟨b,off+j,none⟩:=by unfold Addr.add;split <;> simp_all
    rw [hadd]
    simp only [World.cell?,hb]
    simpa [hu] using this) h1 h63' hbytes hbase
  exact ⟨v',w',hrun,h2,h3⟩
theorem step_app {ops:Array Oper} {o:Oper} {a:Act} {w:World} {K:Act→World→Prop} {Q:Exit→Act→World→Prop} {E':Prop} (hgd:o.guard=none) (s x:Operand) (t:TypeId)
  (ho:o.op = .call {callee:= .builtin .append,args:=#[s,x],argTypes:=#[t,t]})
  (base:Nat) {e:TypeId} {size bytes:Nat} (E:Elem P t e size bytes)
  (v:Value) (n:Nat) (xs:List Value) (hs:a.eval s=v) (hown:w.ownsRow base e size v n xs)
  (vx:Value) (m:Nat) (news:List Value) (hx:a.eval x=vx) (hrow:Row w e vx m news) (hl:news.length=m*size) (h1:∀ u∈news,u.oneCell'=true)
  (hbytes:(n+m)*bytes≤140737488355328) (h63:n+m≤9223372036854775807) (hbase:base≤w.heap.size)
  (h:∀ v' w',Hid (w'.ownsRow base e size v' (n+m) (xs++news))→Hid (w.grownBy w' v.ownBlock)→K (a.put o.dst v') w') :
  if Region.wanted o (yielded ops a.tmps)=true then Oper.wp P o a w K Q else E':=by
 have hw:Region.wanted o (yielded ops a.tmps)=true:=by simp [Region.wanted,hgd]
 rw [if_pos hw]
 obtain ⟨v',w',hrun,h2,h3⟩:=run_app (P:=P) t o.type base E v n xs hown vx m news hrow hl h1 hbytes h63 hbase
 unfold Oper.wp
 simp [execOp,ho,resolve,invoke,builtin,hs,hx,hrun,Result.andThen]
 exact h v' w' h2 h3
end
end Go.Proofs.Heap
