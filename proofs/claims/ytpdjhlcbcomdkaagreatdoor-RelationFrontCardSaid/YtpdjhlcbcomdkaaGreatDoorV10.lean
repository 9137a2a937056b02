/- Several texts in one: The walks of package room, each function once: turns (most kinds). The walks of package room, each function once: turns (publish, resume, switch). The walks of package room, each function once: turns (publish). The walks of package room, each function once: turns (resume). The walks of package room, each function once: turns (switch). The walks of package room, each function once: turns (all kinds), Do. The walks of package room, each function once: New, Gone. The tables as plain data, and in memory. The walk of package room's Table. The frame of every law: from 'the call returns true and what was there stays' to the row's own post; what a slice of bools reads as. Over any program. The argument of a law that is a slice of operations, opened: it reads as a list of operations. The walks of the reference's comparisons: SameTurns, SameSource, SameTable. The walks of the reference's comparisons: SameSource. The walks of the reference's comparisons: SameTable. The laws' first part: the operations of 'start', and what 'shown' asks. The walk of the law RoomKeeps, out of the contracts. The walk of the law RoomGone, out of the contracts. -/
import Derived.Deep.RegionHeld3
import Derived.Deep.RegionLaw
import Derived.Below
import Derived.ChangeSame
import Derived.WideKeyArgs
import Derived.ChangeArms
import Derived.ChangeSlices
import Derived.WalkKit
import Derived.ProofKit
import Derived.OpenShut
import Derived.Carry
import Derived.Deep.Slices
import Derived.SizedLaws
import Derived.Laws.StructEq
import Derived.StillTailTactics
import Derived.Test.YtpdjhlcbcomdkaaGreatDoorV01
import Derived.Test.YtpdjhlcbcomdkaaGreatDoorV02
import Derived.Test.YtpdjhlcbcomdkaaGreatDoorV03
import Derived.Test.YtpdjhlcbcomdkaaGreatDoorV06
import Derived.Test.YtpdjhlcbcomdkaaGreatDoorV08
import Derived.Test.YtpdjhlcbcomdkaaGreatDoorV09
set_option linter.unusedVariables false
set_option linter.unusedSimpArgs false
namespace Go.Proofs.Rm
open Go.RowKit Go.Proofs.Heap Go.Proofs.Mem
def TurnsPost (b:Nat) (R:Room) (o:Op) (w:World) (e:Ending) (w':World):Prop:=
 ∃ v sv,e = .returned v∧TurnRow w' v (turns R o sv).1∧RoomAt w' b (turns R o sv).2∧Fr w.heap.size (· = b) w w'
theorem turnsPost_mk {b:Nat} {R R':Room} {o:Op} {w w':World} {v sv:Value} {l:List Turn} (h:Hid (turns R o sv=(l,R'))) (h1:TurnRow w' v l) (h2:RoomAt w' b R') (h3:Fr w.heap.size (· = b) w w'):TurnsPost b R o w (.returned v) w':=
 ⟨v,sv,rfl,by rw [h.out];exact h1,by rw [h.out];exact h2,h3⟩
theorem turnsPost_of {b:Nat} {R:Room} {o:Op} {w w1 w':World} {v sv:Value} {x:List Turn × Room} (h:Hid (turns R o sv=x)) (h1:TurnRow w' v x.1) (h2:RoomAt w' b x.2) (hw:Below w.heap.size w w1) (h3:Fr w1.heap.size (· = b) w1 w'):TurnsPost b R o w (.returned v) w':=
 ⟨v,sv,rfl,by rw [h.out];exact h1,by rw [h.out];exact h2,(Fr.of_below _ hw).trans (h3.mono hw.size (fun _ _ h=>h))⟩
theorem subCell_paused (x:Sub) (on:Bool):∀ j,j<3→subCell {x with paused:=on} j=if j=1 then .bool on else subCell x j:=by
 intro j hj
 have:j=0∨j=1∨j=2:=by omega
 rcases this with rfl|rfl|rfl <;> rfl
theorem subCell_want (x:Sub) (q:Int):∀ j,j<3→subCell {x with want:=q} j=if j=2 then .int .i64 q else subCell x j:=by
 intro j hj
 have:j=0∨j=1∨j=2:=by omega
 rcases this with rfl|rfl|rfl <;> rfl
section
variable (b:Nat) (R:Room) (p n q:Int) (nm:List UInt8) (ss:List Int) (sa ba:Option Addr) (sl sc bl bc:Nat) (w:World) (hR:RoomAt w b R)
include hR
set_option maxHeartbeats 2000000 in
theorem turns_join (hp:1≤p∧p<9) :
  Calls Tryz.prog 110 #[.pointer (some ⟨b,0,none⟩),.agg #[.int .i64 2,.int .i64 p,.int .i64 n,.int .i64 q,.string (str nm),.slice sa sl sc,.slice ba bl bc]] w (TurnsPost b R ⟨2,p,n,q,nm,ss⟩ w):=by
 obtain ⟨p,rfl⟩:=Int.eq_ofNat_of_zero_le (show 0≤p by omega)
 have hp9:p<9:=by omega
 have hb:=hR.lt
 have c0:=hR.namec hp9
 have f0:=hR.unfrozen p
 have HF:Hid (turns R ⟨2,p,n,q,nm,ss⟩ (.slice none 0 0)=([],R.setName p nm)):=rfl
 have HR1:=Lib.hid (hR.setName hp9 nm)
 have HFR:Hid (Fr w.heap.size (· = b) w (w.setCell ⟨b,p,none⟩ (.string (str nm)))):=(Fr.refl _ _ _).setAt _ _
 clear hR
 go_enter Tryz.func110,Tryz.ntmps110
 go_wp2
 go_region
 go_wp2
 go_ret
 exact turnsPost_mk HF (Row.nil _ _) Yo22 (by repeat (first|exact HFR.out|refine Fr.drew ?_|refine Fr.alloc ?_ (by simp <;> omega) _))
set_option maxHeartbeats 2000000 in
theorem turns_leave (hp:1≤p∧p<9) :
  Calls Tryz.prog 110 #[.pointer (some ⟨b,0,none⟩),.agg #[.int .i64 3,.int .i64 p,.int .i64 n,.int .i64 q,.string (str nm),.slice sa sl sc,.slice ba bl bc]] w (TurnsPost b R ⟨3,p,n,q,nm,ss⟩ w):=by
 obtain ⟨p,rfl⟩:=Int.eq_ofNat_of_zero_le (show 0≤p by omega)
 have hp9:p<9:=by omega
 have hb:=hR.lt
 have HF:Hid (turns R ⟨3,p,n,q,nm,ss⟩ (.slice none 0 0)=leave R p):=rfl
 have C:=Lib.hid (fun (w1:World) (h:Below w.heap.size w w1)=>leave_any b R p w1 (hR.below h) hp9)
 clear hR
 go_enter Tryz.func110,Tryz.ntmps110
 go_wp2_with (go_at_call 136;refine (C.out _ Yo8).mono ?_;rintro e w1 ⟨⟨tv,rfl,htr⟩,hroom,hfr⟩)
 go_ret
 exact turnsPost_of HF htr hroom Yo8 hfr
set_option maxHeartbeats 2000000 in
theorem turns_unpublish (hn:1≤n∧n<9) :
  Calls Tryz.prog 110 #[.pointer (some ⟨b,0,none⟩),.agg #[.int .i64 5,.int .i64 p,.int .i64 n,.int .i64 q,.string (str nm),.slice sa sl sc,.slice ba bl bc]] w (TurnsPost b R ⟨5,p,n,q,nm,ss⟩ w):=by
 obtain ⟨n,rfl⟩:=Int.eq_ofNat_of_zero_le (show 0≤n by omega)
 have hn9:n<9:=by omega
 have hb:=hR.lt
 have HF:Hid (turns R ⟨5,p,n,q,nm,ss⟩ (.slice none 0 0)=gone R n):=rfl
 have C:=Lib.hid (fun (w1:World) (h:Below w.heap.size w w1)=>gone_any b R n w1 (hR.below h) hn9)
 clear hR
 go_enter Tryz.func110,Tryz.ntmps110
 go_wp2_with (go_at_call 137;refine (C.out _ Yo8).mono ?_;rintro e w1 ⟨⟨tv,rfl,htr⟩,hroom,hfr⟩)
 go_ret
 exact turnsPost_of HF htr hroom Yo8 hfr
set_option maxHeartbeats 2000000 in
theorem turns_subscribe (hp:1≤p∧p<9) (hn:1≤n∧n<9) (hq:0≤q∧q<(R.src n.toNat).ss.length) :
  Calls Tryz.prog 110 #[.pointer (some ⟨b,0,none⟩),.agg #[.int .i64 6,.int .i64 p,.int .i64 n,.int .i64 q,.string (str nm),.slice sa sl sc,.slice ba bl bc]] w (TurnsPost b R ⟨6,p,n,q,nm,ss⟩ w):=by
 have hb:=hR.lt
 have HF:Hid (turns R ⟨6,p,n,q,nm,ss⟩ (.slice none 0 0)=begin R ⟨6,p,n,q,nm,ss⟩):=rfl
 have C:=Lib.hid (fun (w1:World) (h:Below w.heap.size w w1)=>begin_any b R ⟨6,p,n,q,nm,ss⟩ sa ba sl sc bl bc w1 (hR.below h) hn hp hq)
 clear hR
 go_enter Tryz.func110,Tryz.ntmps110
 go_wp2_with (go_at_call 138;refine (C.out _ Yo8).mono ?_;rintro e w1 ⟨⟨tv,rfl,htr⟩,hroom,hfr⟩)
 go_ret
 exact turnsPost_of HF htr hroom Yo8 hfr
set_option maxHeartbeats 2000000 in
theorem turns_mute (hn:1≤n∧n<9) :
  Calls Tryz.prog 110 #[.pointer (some ⟨b,0,none⟩),.agg #[.int .i64 8,.int .i64 p,.int .i64 n,.int .i64 q,.string (str nm),.slice sa sl sc,.slice ba bl bc]] w (TurnsPost b R ⟨8,p,n,q,nm,ss⟩ w):=by
 obtain ⟨n,rfl⟩:=Int.eq_ofNat_of_zero_le (show 0≤n by omega)
 have hn9:n<9:=by omega
 have hb:=hR.lt
 have HF:Hid (turns R ⟨8,p,n,q,nm,ss⟩ (.slice none 0 0)=mute R n true):=rfl
 have C:=Lib.hid (fun (w1:World) (h:Below w.heap.size w w1)=>mute_on b R n w1 (hR.below h) hn9)
 exact Yx105
set_option maxHeartbeats 2000000 in
theorem turns_unmute (hn:1≤n∧n<9) (hw:∀ p,p<9→(R.sub n.toNat p).there=true→0≤(R.sub n.toNat p).want∧(R.sub n.toNat p).want<(R.src n.toNat).ss.length) :
  Calls Tryz.prog 110 #[.pointer (some ⟨b,0,none⟩),.agg #[.int .i64 9,.int .i64 p,.int .i64 n,.int .i64 q,.string (str nm),.slice sa sl sc,.slice ba bl bc]] w (TurnsPost b R ⟨9,p,n,q,nm,ss⟩ w):=by
 obtain ⟨n,rfl⟩:=Int.eq_ofNat_of_zero_le (show 0≤n by omega)
 have hn9:n<9:=by omega
 have hb:=hR.lt
 have HF:Hid (turns R ⟨9,p,n,q,nm,ss⟩ (.slice none 0 0)=mute R n false):=rfl
 have C:=Lib.hid (fun (w1:World) (h:Below w.heap.size w w1)=>mute_off b R n w1 (hR.below h) hn9 hw)
 exact Yx105
set_option maxHeartbeats 2000000 in
theorem turns_unsubscribe (hp:1≤p∧p<9) (hn:1≤n∧n<9) :
  Calls Tryz.prog 110 #[.pointer (some ⟨b,0,none⟩),.agg #[.int .i64 7,.int .i64 p,.int .i64 n,.int .i64 q,.string (str nm),.slice sa sl sc,.slice ba bl bc]] w (TurnsPost b R ⟨7,p,n,q,nm,ss⟩ w):=by
 obtain ⟨p,rfl⟩:=Int.eq_ofNat_of_zero_le (show 0≤p by omega)
 have hp9:p<9:=by omega
 obtain ⟨n,rfl⟩:=Int.eq_ofNat_of_zero_le (show 0≤n by omega)
 have hn9:n<9:=by omega
 have hb:=hR.lt
 have HF:Hid (turns R ⟨7,p,n,q,nm,ss⟩ (.slice none 0 0)=([⟨2,p,n,0,0⟩],R.setSub n p noSub)):=rfl
 have C:=Lib.hid (fun (w1:World) (h:Below w.heap.size w w1)=>end_any b R p n w1 (hR.below h) hn9 hp9)
 clear hR
 go_enter Tryz.func110,Tryz.ntmps110
 go_wp2_with (go_at_call 139;refine (C.out _ Yo8).mono ?_;rintro e w1 ⟨rfl,hroom,hfr⟩;have HROOM:=Lib.hid hroom;have HFR:=Lib.hid hfr;clear hroom hfr)
 have hz:=HFR.out.size
 go_ret
 refine turnsPost_of HF (row_new' _ _ 1 _ ([⟨2,p,n,0,0⟩].flatMap turnCells) (by decide) (by simp)) (HROOM.out.alloc _) Yo8 (HFR.out.alloc hz _)
set_option maxHeartbeats 2000000 in
theorem turns_pause (hp:1≤p∧p<9) (hn:1≤n∧n<9) :
  Calls Tryz.prog 110 #[.pointer (some ⟨b,0,none⟩),.agg #[.int .i64 10,.int .i64 p,.int .i64 n,.int .i64 q,.string (str nm),.slice sa sl sc,.slice ba bl bc]] w (TurnsPost b R ⟨10,p,n,q,nm,ss⟩ w):=by
 obtain ⟨p,rfl⟩:=Int.eq_ofNat_of_zero_le (show 0≤p by omega)
 have hp9:p<9:=by omega
 obtain ⟨n,rfl⟩:=Int.eq_ofNat_of_zero_le (show 0≤n by omega)
 have hn9:n<9:=by omega
 have hb:=hR.lt
 obtain ⟨c0,c1,c2⟩:=hR.subc hn9 hp9
 have f1:=hR.unfrozen (54+n*27+p*3+1)
 have HF:Hid (turns R ⟨10,p,n,q,nm,ss⟩ (.slice none 0 0)=([⟨4,p,n,0,0⟩],R.setSub n p {R.sub n p with paused:=true})):=rfl
 have HR1:=Lib.hid (hR.setSubCell hn9 hp9 (i:=1) (by omega) (x:={R.sub n p with paused:=true}) (v:= .bool true) (subCell_paused _ _))
 have HFR:Hid (Fr w.heap.size (· = b) w (w.setCell ⟨b,54+n*27+p*3+1,none⟩ (.bool true))):=(Fr.refl _ _ _).setAt _ _
 clear hR
 go_enter Tryz.func110,Tryz.ntmps110
 go_wp2
 go_region
 go_wp2
 go_ret
 exact turnsPost_mk HF (by first|exact Row.drew (row_new' _ _ 1 _ ([⟨4,p,n,0,0⟩].flatMap turnCells) (by decide) (by simp))|exact row_new' _ _ 1 _ ([⟨4,p,n,0,0⟩].flatMap turnCells) (by decide) (by simp [size_setCell])) Yo22 (by repeat (first|exact HFR.out|refine Fr.drew ?_|refine Fr.alloc ?_ (by simp <;> omega) _))
end
end Go.Proofs.Rm
namespace Go.Proofs.Rm
open Go.RowKit Go.Proofs.Heap Go.Proofs.Mem
theorem cell_below {w w':World} {a:Addr} {v:Value} (hb:Below w.heap.size w w') (h:w.cell? a=some v):w'.cell? a=some v:=(hb.cell (World.block_lt_of_cell? w _ h)).trans h
theorem cell_alloc {w:World} {a:Addr} {v:Value} (h:w.cell? a=some v) (o:Obj):(w.alloc o).cell? a=some v:=cell_below (below_alloc _ _) h
theorem cell_drew {w:World} {a:Addr} {v:Value} (h:w.cell? a=some v):w.drew.cell? a=some v:=h
theorem cell_alloc2 {w:World} {a:Addr} {v:Value} (h:w.drew.drew.cell? a=some v) (o:Obj):(w.alloc o).drew.drew.cell? a=some v:=cell_alloc (w:=w) h o
theorem cell_alloc3 {w:World} {a:Addr} {v:Value} (h:w.drew.drew.drew.cell? a=some v) (o:Obj):(w.alloc o).drew.drew.drew.cell? a=some v:=cell_alloc (w:=w) h o
theorem cell_grown {w w':World} {row:Option Nat} {a:Addr} {v:Value} (hg:w.grownBy w' row) (h:w.cell? a=some v) (hne:∀ k,row=some k→a.block<k):w'.cell? a=some v:=
 (World.cell?_of_block (hg.block a.block (World.block_lt_of_cell? w _ h) (fun e=>by have:=hne _ e.symm;omega))).trans h
theorem cell_new2 {W:World} {m:Nat} (hm:W.heap.size=m) (A:Obj) (cs:Array Value) (e:TypeId) (j:Nat):((W.alloc A).alloc (.cells cs e)).cell? ⟨m+1,j,none⟩=cs[j]?:=by
 subst hm
 have:=(two_new W A (.cells cs e)).2
 simp only [World.cell?,this]
 rfl
theorem cell_new1 {W:World} {m:Nat} (hm:W.heap.size=m) (B:Obj) (cs:Array Value) (e:TypeId) (j:Nat):((W.alloc (.cells cs e)).alloc B).cell? ⟨m,j,none⟩=cs[j]?:=by
 subst hm
 have:=(two_new W (.cells cs e) B).1
 simp only [World.cell?,this]
 rfl
structure TX (b:Nat) (R1:Room) (w w':World):Prop where
 room:RoomAt w' b R1
 fr:Fr w.heap.size (· = b) w w'
 size:w.heap.size+1<w'.heap.size
theorem TX.drew {b:Nat} {R1:Room} {w w':World} (h:TX b R1 w w'):TX b R1 w w'.drew:=⟨h.room.drew,h.fr.drew,h.size⟩
theorem TX.alloc {b:Nat} {R1:Room} {w w':World} (h:TX b R1 w w') (o:Obj):TX b R1 w (w'.alloc o):=⟨h.room.alloc o,h.fr.alloc (by have:=h.size;omega) o,by have:=h.size;simp;omega⟩
theorem TX.below {b:Nat} {R1:Room} {w w1 w':World} (h:TX b R1 w w1) (hb:Below w1.heap.size w1 w'):TX b R1 w w':=
 ⟨h.room.below hb,h.fr.trans ((Fr.of_below _ hb).mono (by have:=h.size;omega) (fun _ _ h=>h)),by have:=h.size;have:=hb.size;omega⟩
theorem TX.alloc2 {b:Nat} {R1:Room} {w w':World} (h:TX b R1 w w'.drew.drew) (o:Obj):TX b R1 w (w'.alloc o).drew.drew:=
 h.below ⟨rfl,rfl,rfl,by show w'.heap.size≤(w'.alloc o).heap.size;simp,fun k hk=>Below.heap_alloc _ _ _ hk⟩
theorem TX.alloc3 {b:Nat} {R1:Room} {w w':World} (h:TX b R1 w w'.drew.drew.drew) (o:Obj):TX b R1 w (w'.alloc o).drew.drew.drew:=
 h.below ⟨rfl,rfl,rfl,by show w'.heap.size≤(w'.alloc o).heap.size;simp,fun k hk=>Below.heap_alloc _ _ _ hk⟩
theorem TX.grown {b:Nat} {R1:Room} {w w1 w':World} (h:TX b R1 w w1) (hb:b<w.heap.size) {base:Nat} {v:Value} {m:Nat} {ys:List Value} (ho:w1.ownsRow base 158 5 v m ys) (hg:w1.grownBy w' v.ownBlock) (hB:w.heap.size≤base):TX b R1 w w':=
 ⟨RoomAt.grown h.room ho hg (by omega) (by decide),h.fr.grown hg (by have:=h.size;omega) (fun k hk=>Nat.le_trans hB (own_le ho k hk)),by have:=h.size;have:=hg.size;omega⟩
theorem owns_newB (w:World) (e:TypeId) (size n m base:Nat) (xs:List Value) (hl:xs.length=n*size) (hn:n≤maxLen) (hm:m=w.heap.size) (hB:base≤m):(w.alloc (.cells xs.toArray e)).ownsRow base e size (.slice (some ⟨m,0,none⟩) n n) n xs:=by
 subst hm
 exact ⟨hl,.inr ⟨w.heap.size,n,xs.toArray,rfl,hB,(by show (w.heap.push _)[w.heap.size]?=_;simp),Nat.le_refl _,hn,by simp [hl],by rw [List.take_of_length_le (by simp [hl])]⟩⟩
theorem TX.grownAll {b:Nat} {R1:Room} {w w1 w':World} (h:TX b R1 w w1) (hb:b<w.heap.size) {v:Value} {m:Nat} {ys:List Value} (ho:w1.ownsRow (w.heap.size+2) 158 5 v m ys) (hg:Hid (w1.grownBy w' v.ownBlock)) :
  TX b R1 w w'∧∀ a u,a.block≤w.heap.size+1→w1.cell? a=some u→w'.cell? a=some u:=
 ⟨h.grown hb ho hg.out (by omega),fun a u ha hu=>cell_grown hg.out hu (fun k hk=>by have:=own_le ho k hk;omega)⟩
end Go.Proofs.Rm
namespace Go.Proofs.Rm
open Go.RowKit Go.Proofs.Heap Go.Proofs.Mem
theorem cell_set1 {w:World} {b m i j:Nat} {u v:Value} (hb:b<m) (h:w.cell? ⟨m,j,none⟩=some v):(w.setCell ⟨b,i,none⟩ u).cell? ⟨m,j,none⟩=some v:=by
 rw [World.cell?_setCell_other _ _ _ _ (by intro e;injection e;omega)];exact h
theorem cell_set5 {w:World} {b m j i0 i1 i2 i3 i4:Nat} {u0 u1 u2 u3 u4 v:Value} (hb:b<m) (h:w.cell? ⟨m,j,none⟩=some v):(((((w.setCell ⟨b,i0,none⟩ u0).setCell ⟨b,i1,none⟩ u1).setCell ⟨b,i2,none⟩ u2).setCell ⟨b,i3,none⟩ u3).setCell ⟨b,i4,none⟩ u4).cell? ⟨m,j,none⟩=some v:=
 cell_set1 hb (cell_set1 hb (cell_set1 hb (cell_set1 hb (cell_set1 hb h))))
theorem size_set5 {w:World} {b m i0 i1 i2 i3 i4:Nat} {u0 u1 u2 u3 u4:Value} (h:m<w.heap.size):m<(((((w.setCell ⟨b,i0,none⟩ u0).setCell ⟨b,i1,none⟩ u1).setCell ⟨b,i2,none⟩ u2).setCell ⟨b,i3,none⟩ u3).setCell ⟨b,i4,none⟩ u4).heap.size:=by
 simpa [size_setCell] using h
section
variable (b:Nat) (R:Room) (p n q:Int) (nm:List UInt8) (ss:List Int) (sa ba:Option Addr) (sl sc bl bc:Nat) (w:World) (hR:RoomAt w b R)
include hR
set_option maxRecDepth 100000 in
set_option maxHeartbeats 4000000 in
theorem turns_publish (hp:1≤p∧p<9) (hn:1≤n∧n<9) (hrow:RRow w (.slice sa sl sc) ss.length (u32s ss)) (hl:ss.length≤1000000) :
  Calls Tryz.prog 110 #[.pointer (some ⟨b,0,none⟩),.agg #[.int .i64 4,.int .i64 p,.int .i64 n,.int .i64 q,.string (str nm),.slice sa sl sc,.slice ba bl bc]] w (TurnsPost b R ⟨4,p,n,q,nm,ss⟩ w):=by
 obtain ⟨p,rfl⟩:=Int.eq_ofNat_of_zero_le (show 0≤p by omega)
 have hp9:p<9:=by omega
 obtain ⟨n,rfl⟩:=Int.eq_ofNat_of_zero_le (show 0≤n by omega)
 have hn9:n<9:=by omega
 have hb:=hR.lt
 have HRW:Hid (∀ w1,Below w.heap.size w w1→RoomAt w1 b R):=fun w1 h=>hR.below h
 have HSL:Hid (sl=ss.length):=by
  obtain ⟨a',c',e,_⟩:=hrow
  injection e
 have HUF:Hid (∀ w1,RoomAt w1 b R→∀ j,w1.frozen? ⟨b,j,none⟩=false):=fun w1 h j=>h.unfrozen j
 have C:=Lib.hid (fun (w1:World) (h:Below w.heap.size w w1)=>Clone_any (.slice sa sl sc) ss w1 (hrow.below h) hl)
 have hbw:∀ A B:Obj,Below w.heap.size w ((w.alloc A).alloc B).drew:=fun A B=>(((Below.refl _ _).alloc (Nat.le_refl _) A).alloc (by simp) B).drew
 clear hR hrow hl
 go_enter Tryz.func110,Tryz.ntmps110
 go_wp2
 go_region_held3 (fun w'=>w'.cell? ⟨w.heap.size,1,none⟩=some (.int .i64 p)∧w'.cell? ⟨w.heap.size,2,none⟩=some (.int .i64 n)∧w'.cell? ⟨w.heap.size,5,none⟩=some (.slice sa sl sc)∧Fr w.heap.size (· = b) w w'∧w.heap.size+1<w'.heap.size) (first|(refine ⟨?_,?_,?_,?_,?_⟩ <;> first|with_reducible assumption|(with_reducible refine Fr.drew ?_;with_reducible assumption)|(with_reducible refine Fr.of_below _ ?_;with_reducible apply hbw)|((with_reducible refine Fr.setAt ?_ _ _);(repeat (with_reducible refine Fr.setAt ?_ _ _));with_reducible assumption)|(with_reducible refine cell_set5 hb ?_;with_reducible assumption)|(with_reducible refine size_set5 ?_;with_reducible assumption)|go_keep)|go_keep) (first|(go_at_call 112;go_split_ands;refine Calls.mono (C.out _ (hbw _ _)) ?_;rintro e w2 ⟨⟨cv,rfl,hcr⟩,hb2⟩;have hbl2:=Below.trans (hbw _ _) (hb2.mono (Nat.le_of_lt (Nat.lt_of_succ_lt Yo5)));have hfr2:=Fr.of_below (· = b) hbl2;have hsz2:=Nat.lt_of_lt_of_le Yo5 hb2.size;obtain ⟨ca,cc,hce,hcx⟩:=id hcr;clear hcx;subst hce;have HCR:=Lib.hid hcr;clear hcr;obtain ⟨s0,s1,s2,s3,s4⟩:=(HRW.out w2 hbl2).srcc hn9;have f0:=HUF.out w2 (HRW.out w2 hbl2) (9+n*5);have f1:=HUF.out w2 (HRW.out w2 hbl2) (9+n*5+1);have f2:=HUF.out w2 (HRW.out w2 hbl2) (9+n*5+2);have f3:=HUF.out w2 (HRW.out w2 hbl2) (9+n*5+3);have f4:=HUF.out w2 (HRW.out w2 hbl2) (9+n*5+4);have k1:=cell_below (a:=⟨w.heap.size,1,none⟩) hb2 Yo5;have k2:=cell_below (a:=⟨w.heap.size,2,none⟩) hb2 Yo5;have k5:=cell_below (a:=⟨w.heap.size,5,none⟩) hb2 Yo5))
 go_wp2
 go_ret
 have HF:Hid (turns R ⟨4,p,n,q,nm,ss⟩ (.slice ca ss.length cc)=([],R.setSrc n ⟨true,n,p,.slice ca ss.length cc,ss,false⟩)):=rfl
 exact turnsPost_mk HF (Row.nil _ _) ((HRW.out w2 hbl2).setSrc hn9 ⟨true,n,p,.slice ca ss.length cc,ss,false⟩ HCR.out) (((((hfr2.setAt _ _).setAt _ _).setAt _ _).setAt _ _).setAt _ _)
end
end Go.Proofs.Rm
namespace Go.Proofs.Rm
open Go.RowKit Go.Proofs.Heap Go.Proofs.Mem
section
variable (b:Nat) (R:Room) (p n q:Int) (nm:List UInt8) (ss:List Int) (sa ba:Option Addr) (sl sc bl bc:Nat) (w:World) (hR:RoomAt w b R)
include hR
set_option maxRecDepth 100000 in
set_option maxHeartbeats 4000000 in
theorem turns_resume (hp:1≤p∧p<9) (hn:1≤n∧n<9) (hw:0≤(R.sub n.toNat p.toNat).want∧(R.sub n.toNat p.toNat).want<(R.src n.toNat).ss.length) :
  Calls Tryz.prog 110 #[.pointer (some ⟨b,0,none⟩),.agg #[.int .i64 11,.int .i64 p,.int .i64 n,.int .i64 q,.string (str nm),.slice sa sl sc,.slice ba bl bc]] w (TurnsPost b R ⟨11,p,n,q,nm,ss⟩ w):=by
 obtain ⟨p,rfl⟩:=Int.eq_ofNat_of_zero_le (show 0≤p by omega)
 have hp9:p<9:=by omega
 obtain ⟨n,rfl⟩:=Int.eq_ofNat_of_zero_le (show 0≤n by omega)
 have hn9:n<9:=by omega
 have hb:=hR.lt
 obtain ⟨c0,c1,c2⟩:=hR.subc hn9 hp9
 have fz:=hR.unfrozen (54+n*27+p*3+1)
 have HF:Hid (turns R ⟨11,p,n,q,nm,ss⟩ (.slice none 0 0)=(⟨5,p,n,0,0⟩ :: waits (R.setSub n p {R.sub n p with paused:=false}) p n,R.setSub n p {R.sub n p with paused:=false})):=rfl
 have HR1:=Lib.hid (hR.setSubCell hn9 hp9 (i:=1) (by omega) (x:={R.sub n p with paused:=false}) (v:= .bool false) (subCell_paused _ _))
 have HFR:Hid (Fr w.heap.size (· = b) w (w.setCell ⟨b,54+n*27+p*3+1,none⟩ (.bool false))):=(Fr.refl _ _ _).setAt _ _
 have CW:Hid (∀ w1,RoomAt w1 b (R.setSub n p {R.sub n p with paused:=false})→Calls Tryz.prog 141 #[.pointer (some ⟨b,0,none⟩),.int .i64 p,.int .i64 n] w1 fun e w'=>(∃ v,e = .returned v∧TurnRow w' v (waits (R.setSub n p {R.sub n p with paused:=false}) p n))∧Below w1.heap.size w1 w'):=
  fun w1 h=>waits_any b _ p n w1 h hn9 hp9 (by rw [sub_setSub];exact hw)
 have HWL:(waits (R.setSub n p {R.sub n p with paused:=false}) p n).length≤1:=by unfold waits;split <;> simp
 clear hR hw
 have HTX:Hid (∀ B1 B2:Obj,TX b (R.setSub n p {R.sub n p with paused:=false}) w (((w.setCell ⟨b,54+n*27+p*3+1,none⟩ (.bool false)).alloc B1).alloc B2).drew):=fun B1 B2=>⟨((HR1.out.alloc _).alloc _).drew,((HFR.out.alloc (by simp) _).alloc (by simp) _).drew,by simp⟩
 generalize waits (R.setSub n p {R.sub n p with paused:=false}) p n=W at *
 generalize R.setSub n p {R.sub n p with paused:=false}=R1 at *
 go_enter Tryz.func110,Tryz.ntmps110
 go_wp2
 go_region
 go_wp2
 have htx:=HTX.out
 go_region_held3 (fun w'=>w'.cell? ⟨w.heap.size+1,0,none⟩=some (.int .i64 5)∧w'.cell? ⟨w.heap.size+1,1,none⟩=some (.int .i64 p)∧w'.cell? ⟨w.heap.size+1,2,none⟩=some (.int .i64 n)∧w'.cell? ⟨w.heap.size+1,3,none⟩=some (.int .i64 0)∧w'.cell? ⟨w.heap.size+1,4,none⟩=some (.int .u32 0)∧w'.cell? ⟨w.heap.size,1,none⟩=some (.int .i64 p)∧w'.cell? ⟨w.heap.size,2,none⟩=some (.int .i64 n)∧TX b R1 w w') ((go_split_ands;((repeat' apply And.intro) <;> first|with_reducible assumption|((with_reducible apply cell_drew);with_reducible assumption)|(with_reducible apply TX.drew;with_reducible assumption)|(with_reducible apply TX.drew;with_reducible apply htx)|(with_reducible apply cell_alloc;with_reducible assumption)|(with_reducible apply cell_alloc2;with_reducible assumption)|(with_reducible apply cell_alloc3;with_reducible assumption)|(with_reducible apply TX.alloc;with_reducible assumption)|(with_reducible apply TX.alloc2;with_reducible assumption)|(with_reducible apply TX.alloc3;with_reducible assumption)|((with_reducible apply cell_drew);(with_reducible apply cell_drew);(with_reducible refine (cell_new2 (size_setCell _ _ _) _ _ _ _).trans ?_);rfl)|((with_reducible apply cell_drew);(with_reducible apply cell_drew);(with_reducible refine (cell_new1 (size_setCell _ _ _) _ _ _ _).trans ?_);rfl)|go_keep))) (first|(go_at_call 141;go_split_ands;refine Calls.mono (CW.out _ (TX.room Yo5)) ?_;rintro e w2 ⟨⟨tv,rfl,htr⟩,hb2⟩;have HTR:=Lib.hid htr;clear htr;have k0:=cell_below (a:=⟨w.heap.size+1,0,none⟩) hb2 Yo5;have k1:=cell_below (a:=⟨w.heap.size+1,1,none⟩) hb2 Yo5;have k2:=cell_below (a:=⟨w.heap.size+1,2,none⟩) hb2 Yo5;have k3:=cell_below (a:=⟨w.heap.size+1,3,none⟩) hb2 Yo5;have k4:=cell_below (a:=⟨w.heap.size+1,4,none⟩) hb2 Yo5;have k5:=cell_below (a:=⟨w.heap.size,1,none⟩) hb2 Yo5;have k6:=cell_below (a:=⟨w.heap.size,2,none⟩) hb2 Yo5;have tx2:=TX.below Yo5 hb2)|(go_split_ands;refine step_app (by rfl) (.tmp 105) (.tmp 111) 98 (by rfl) (w.heap.size+2) elemTurn _ 1 ([Turn.mk 5 p n 0 0].flatMap turnCells) (by rfl) ?_ _ W.length (W.flatMap turnCells) (by rfl) ?_ (turns_len _) (turns_one _) (by omega) (by omega) ?_ ?_;(first|exact owns_newB _ _ 5 1 _ _ ([Turn.mk 5 p n 0 0].flatMap turnCells) rfl (by decide) rfl (by have:=tx2.size;omega)|(exact owns_below (by repeat (first|exact owns_new _ _ 5 1 _ ([Turn.mk 5 p n 0 0].flatMap turnCells) rfl (by decide) (by simp)|refine owns_drew ?_)) hb2));(first|exact HTR.out|exact HTR.out.below (below_alloc _ _));(have hs:=TX.size Yo5;omega);intro v' w3 HO HG;obtain ⟨tx3,hcg⟩:=TX.grownAll Yo5 hb (by first|exact owns_newB _ _ 5 1 _ _ ([Turn.mk 5 p n 0 0].flatMap turnCells) rfl (by decide) rfl (by have:=tx2.size;omega)|(exact owns_below (by repeat (first|exact owns_new _ _ 5 1 _ ([Turn.mk 5 p n 0 0].flatMap turnCells) rfl (by decide) (by simp)|refine owns_drew ?_)) hb2)) HG;have g0:=hcg ⟨w.heap.size+1,0,none⟩ _ (by simp) Yo5;have g1:=hcg ⟨w.heap.size+1,1,none⟩ _ (by simp) Yo5;have g2:=hcg ⟨w.heap.size+1,2,none⟩ _ (by simp) Yo5;have g3:=hcg ⟨w.heap.size+1,3,none⟩ _ (by simp) Yo5;have g4:=hcg ⟨w.heap.size+1,4,none⟩ _ (by simp) Yo5;have g5:=hcg ⟨w.heap.size,1,none⟩ _ (by simp) Yo5;have g6:=hcg ⟨w.heap.size,2,none⟩ _ (by simp) Yo5;clear hcg))
 all_goals
  go_wp2
  go_ret
  have hrow:=Row.of_owns HO.out
  rw [Nat.add_comm] at hrow
  exact turnsPost_mk HF hrow tx3.room tx3.fr
end
end Go.Proofs.Rm
namespace Go.Proofs.Rm
open Go.RowKit Go.Proofs.Heap Go.Proofs.Mem
section
variable (b:Nat) (R:Room) (p n q:Int) (nm:List UInt8) (ss:List Int) (sa ba:Option Addr) (sl sc bl bc:Nat) (w:World) (hR:RoomAt w b R)
include hR
set_option maxRecDepth 100000 in
set_option maxHeartbeats 4000000 in
theorem turns_switch (hp:1≤p∧p<9) (hn:1≤n∧n<9) (hw:0≤q∧q<(R.src n.toNat).ss.length) :
  Calls Tryz.prog 110 #[.pointer (some ⟨b,0,none⟩),.agg #[.int .i64 12,.int .i64 p,.int .i64 n,.int .i64 q,.string (str nm),.slice sa sl sc,.slice ba bl bc]] w (TurnsPost b R ⟨12,p,n,q,nm,ss⟩ w):=by
 obtain ⟨p,rfl⟩:=Int.eq_ofNat_of_zero_le (show 0≤p by omega)
 have hp9:p<9:=by omega
 obtain ⟨n,rfl⟩:=Int.eq_ofNat_of_zero_le (show 0≤n by omega)
 have hn9:n<9:=by omega
 have hb:=hR.lt
 obtain ⟨c0,c1,c2⟩:=hR.subc hn9 hp9
 have fz:=hR.unfrozen (54+n*27+p*3+2)
 have HF:Hid (turns R ⟨12,p,n,q,nm,ss⟩ (.slice none 0 0)=(⟨8,p,n,q,0⟩ :: waits (R.setSub n p {R.sub n p with want:=q}) p n,R.setSub n p {R.sub n p with want:=q})):=rfl
 have HR1:=Lib.hid (hR.setSubCell hn9 hp9 (i:=2) (by omega) (x:={R.sub n p with want:=q}) (v:= .int .i64 q) (subCell_want _ _))
 have HFR:Hid (Fr w.heap.size (· = b) w (w.setCell ⟨b,54+n*27+p*3+2,none⟩ (.int .i64 q))):=(Fr.refl _ _ _).setAt _ _
 have CW:Hid (∀ w1,RoomAt w1 b (R.setSub n p {R.sub n p with want:=q})→Calls Tryz.prog 141 #[.pointer (some ⟨b,0,none⟩),.int .i64 p,.int .i64 n] w1 fun e w'=>(∃ v,e = .returned v∧TurnRow w' v (waits (R.setSub n p {R.sub n p with want:=q}) p n))∧Below w1.heap.size w1 w'):=
  fun w1 h=>waits_any b _ p n w1 h hn9 hp9 (by rw [sub_setSub];exact hw)
 have HWL:(waits (R.setSub n p {R.sub n p with want:=q}) p n).length≤1:=by unfold waits;split <;> simp
 clear hR hw
 have HTX:Hid (∀ B1 B2:Obj,TX b (R.setSub n p {R.sub n p with want:=q}) w (((w.setCell ⟨b,54+n*27+p*3+2,none⟩ (.int .i64 q)).alloc B1).alloc B2).drew.drew):=fun B1 B2=>⟨((HR1.out.alloc _).alloc _).drew.drew,((HFR.out.alloc (by simp) _).alloc (by simp) _).drew.drew,by simp⟩
 generalize waits (R.setSub n p {R.sub n p with want:=q}) p n=W at *
 generalize R.setSub n p {R.sub n p with want:=q}=R1 at *
 go_enter Tryz.func110,Tryz.ntmps110
 go_wp2
 go_region
 go_wp2
 go_region
 go_wp2
 have htx:=HTX.out
 go_region_held3 (fun w'=>w'.cell? ⟨w.heap.size+1,0,none⟩=some (.int .i64 8)∧w'.cell? ⟨w.heap.size+1,1,none⟩=some (.int .i64 p)∧w'.cell? ⟨w.heap.size+1,2,none⟩=some (.int .i64 n)∧w'.cell? ⟨w.heap.size+1,3,none⟩=some (.int .i64 q)∧w'.cell? ⟨w.heap.size+1,4,none⟩=some (.int .u32 0)∧w'.cell? ⟨w.heap.size,1,none⟩=some (.int .i64 p)∧w'.cell? ⟨w.heap.size,2,none⟩=some (.int .i64 n)∧TX b R1 w w') ((go_split_ands;((repeat' apply And.intro) <;> first|with_reducible assumption|((with_reducible apply cell_drew);with_reducible assumption)|(with_reducible apply TX.drew;with_reducible assumption)|(with_reducible apply TX.drew;with_reducible apply htx)|(with_reducible apply cell_alloc;with_reducible assumption)|(with_reducible apply cell_alloc2;with_reducible assumption)|(with_reducible apply cell_alloc3;with_reducible assumption)|(with_reducible apply TX.alloc;with_reducible assumption)|(with_reducible apply TX.alloc2;with_reducible assumption)|(with_reducible apply TX.alloc3;with_reducible assumption)|((with_reducible apply cell_drew);(with_reducible apply cell_drew);(with_reducible apply cell_drew);(with_reducible refine (cell_new2 (size_setCell _ _ _) _ _ _ _).trans ?_);rfl)|((with_reducible apply cell_drew);(with_reducible apply cell_drew);(with_reducible apply cell_drew);(with_reducible refine (cell_new1 (size_setCell _ _ _) _ _ _ _).trans ?_);rfl)|go_keep))) (first|(go_at_call 141;go_split_ands;refine Calls.mono (CW.out _ (TX.room Yo5)) ?_;rintro e w2 ⟨⟨tv,rfl,htr⟩,hb2⟩;have HTR:=Lib.hid htr;clear htr;have k0:=cell_below (a:=⟨w.heap.size+1,0,none⟩) hb2 Yo5;have k1:=cell_below (a:=⟨w.heap.size+1,1,none⟩) hb2 Yo5;have k2:=cell_below (a:=⟨w.heap.size+1,2,none⟩) hb2 Yo5;have k3:=cell_below (a:=⟨w.heap.size+1,3,none⟩) hb2 Yo5;have k4:=cell_below (a:=⟨w.heap.size+1,4,none⟩) hb2 Yo5;have k5:=cell_below (a:=⟨w.heap.size,1,none⟩) hb2 Yo5;have k6:=cell_below (a:=⟨w.heap.size,2,none⟩) hb2 Yo5;have tx2:=TX.below Yo5 hb2)|(go_split_ands;refine step_app (by rfl) (.tmp 132) (.tmp 138) 98 (by rfl) (w.heap.size+2) elemTurn _ 1 ([Turn.mk 8 p n q 0].flatMap turnCells) (by rfl) ?_ _ W.length (W.flatMap turnCells) (by rfl) ?_ (turns_len _) (turns_one _) (by omega) (by omega) ?_ ?_;(first|exact owns_newB _ _ 5 1 _ _ ([Turn.mk 8 p n q 0].flatMap turnCells) rfl (by decide) rfl (by have:=tx2.size;omega)|(exact owns_below (by repeat (first|exact owns_new _ _ 5 1 _ ([Turn.mk 8 p n q 0].flatMap turnCells) rfl (by decide) (by simp)|refine owns_drew ?_)) hb2));(first|exact HTR.out|exact HTR.out.below (below_alloc _ _));(have hs:=TX.size Yo5;omega);intro v' w3 HO HG;obtain ⟨tx3,hcg⟩:=TX.grownAll Yo5 hb (by first|exact owns_newB _ _ 5 1 _ _ ([Turn.mk 8 p n q 0].flatMap turnCells) rfl (by decide) rfl (by have:=tx2.size;omega)|(exact owns_below (by repeat (first|exact owns_new _ _ 5 1 _ ([Turn.mk 8 p n q 0].flatMap turnCells) rfl (by decide) (by simp)|refine owns_drew ?_)) hb2)) HG;have g0:=hcg ⟨w.heap.size+1,0,none⟩ _ (by simp) Yo5;have g1:=hcg ⟨w.heap.size+1,1,none⟩ _ (by simp) Yo5;have g2:=hcg ⟨w.heap.size+1,2,none⟩ _ (by simp) Yo5;have g3:=hcg ⟨w.heap.size+1,3,none⟩ _ (by simp) Yo5;have g4:=hcg ⟨w.heap.size+1,4,none⟩ _ (by simp) Yo5;have g5:=hcg ⟨w.heap.size,1,none⟩ _ (by simp) Yo5;have g6:=hcg ⟨w.heap.size,2,none⟩ _ (by simp) Yo5;clear hcg))
 all_goals
  go_wp2
  go_ret
  have hrow:=Row.of_owns HO.out
  rw [Nat.add_comm] at hrow
  exact turnsPost_mk HF hrow tx3.room tx3.fr
end
end Go.Proofs.Rm
namespace Go.Proofs.Rm
open Go.RowKit Go.Proofs.Heap Go.Proofs.Mem
open Go.Proofs.Lab (may key Tabs)
theorem turns_any (b:Nat) (R:Room) (o:Op) (sa ba:Option Addr) (sc bl bc:Nat) (w:World) (hR:RoomAt w b R) (hI:Inv R) (ok:Ok R o)
  (hrow:RRow w (.slice sa o.ssrcs.length sc) o.ssrcs.length (u32s o.ssrcs)) :
  Calls Tryz.prog 110 #[.pointer (some ⟨b,0,none⟩),.agg #[.int .i64 o.kind,.int .i64 o.peer,.int .i64 o.source,.int .i64 o.layer,.string (str o.name),.slice sa o.ssrcs.length sc,.slice ba bl bc]] w (TurnsPost b R o w):=by
 have hok:=ok
 obtain ⟨kd,p,n,q,nm,ss⟩:=o
 obtain ⟨hk,hp,hj,ht,hs,hpub,his,habt⟩:=ok
 dsimp only at *
 by_cases k2:kd=2
 ·subst k2;exact turns_join b R p n q nm ss sa ba _ sc bl bc w hR hp
 by_cases k3:kd=3
 ·subst k3;exact turns_leave b R p n q nm ss sa ba _ sc bl bc w hR hp
 have hn:=hs (by omega)
 by_cases k4:kd=4
 ·subst k4
  have h2:=(pub_ok (hpub rfl)).2.1
  dsimp only at h2
  exact turns_publish b R p n q nm ss sa ba _ sc bl bc w hR hp hn hrow (by omega)
 have habt:=habt (by omega)
 have hb:=fun q=>hI.subAt n.toNat q
 by_cases k5:kd=5
 ·subst k5;exact turns_unpublish b R p n q nm ss sa ba _ sc bl bc w hR hn
 by_cases k6:kd=6
 ·subst k6;exact turns_subscribe b R p n q nm ss sa ba _ sc bl bc w hR hp hn (layer_ok (about_sub habt rfl).2.2)
 by_cases k7:kd=7
 ·subst k7;exact turns_unsubscribe b R p n q nm ss sa ba _ sc bl bc w hR hp hn
 by_cases k8:kd=8
 ·subst k8;exact turns_mute b R p n q nm ss sa ba _ sc bl bc w hR hn
 by_cases k9:kd=9
 ·subst k9;exact turns_unmute b R p n q nm ss sa ba _ sc bl bc w hR hn fun p' _ ht=>⟨(hb p' ht).2.2.2.2.2.2.2.1,(hb p' ht).2.2.2.2.2.2.2.2⟩
 obtain ⟨h1,_,_,h4⟩:=about_hear habt (by right;show 10≤kd;omega)
 dsimp only at h1 h4
 by_cases k10:kd=10
 ·subst k10;exact turns_pause b R p n q nm ss sa ba _ sc bl bc w hR hp hn
 by_cases k11:kd=11
 ·subst k11;exact turns_resume b R p n q nm ss sa ba _ sc bl bc w hR hp hn ⟨(hb _ h1).2.2.2.2.2.2.2.1,(hb _ h1).2.2.2.2.2.2.2.2⟩
 obtain rfl:kd=12:=by omega
 exact turns_switch b R p n q nm ss sa ba _ sc bl bc w hR hp hn (layer_ok (h4 rfl).1)
def DoPost (b:Nat) (R:Room) (o:Op) (w:World) (e:Ending) (w':World):Prop:=
 ∃ v sv,e = .returned (.tuple #[v,.int .i64 (doo R o sv).2])∧TurnRow w' v (doo R o sv).1.1∧RoomAt w' b (doo R o sv).1.2∧Fr w.heap.size (· = b) w w'
theorem doPost_wrong {b:Nat} {R:Room} {o:Op} {w w':World} {x:Int} (hx:Hid (wrong R o=x)) (hne:x≠0) (h2:RoomAt w' b R) (h3:Fr w.heap.size (· = b) w w'):DoPost b R o w (.returned (.tuple #[.slice none 0 0,.int .i64 x])) w':=by
 have h:∀ sv,doo R o sv=(([],R),x):=fun sv=>by unfold doo;rw [hx.out,if_pos hne]
 exact ⟨.slice none 0 0,.slice none 0 0,by rw [h],by rw [h];exact Row.nil _ _,by rw [h];exact h2,h3⟩
theorem doPost_right {b:Nat} {R:Room} {o:Op} {w w1 w':World} {v:Value} (hx:Hid (wrong R o=0)) (hb:Below w.heap.size w w1) (h:TurnsPost b R o w1 (.returned v) w'):DoPost b R o w (.returned (.tuple #[v,.int .i64 0])) w':=by
 obtain ⟨v',sv,he,h1,h2,h3⟩:=h
 injection he with he
 subst he
 have hd:doo R o sv=(turns R o sv,0):=by unfold doo;rw [hx.out];simp
 exact ⟨v,sv,by rw [hd],by rw [hd];exact h1,by rw [hd];exact h2,(Fr.of_below _ hb).trans (h3.mono hb.size (fun _ _ h=>h))⟩
theorem turnsPost_val {b:Nat} {R:Room} {o:Op} {w w':World} {e:Ending} (h:TurnsPost b R o w e w'):∃ v,e = .returned v∧TurnsPost b R o w (.returned v) w':=by
 obtain ⟨v,sv,he,h1⟩:=h
 exact ⟨v,he,v,sv,rfl,h1⟩
theorem names_short {R:Room} (hI:Inv R):∀ p,(R.names p).length<9223372036854775807:=by
 intro p
 by_cases h:R.names p=[]
 ·rw [h];decide
 ·have:=Lab.may_len (hI.nameAt p h).2
  omega
set_option maxHeartbeats 2000000 in
theorem Do_any (b:Nat) (R:Room) (o:Op) (sa ba:Option Addr) (sc bl bc:Nat) (w:World) (hR:RoomAt w b R) (hI:Inv R) (hT:Tabs w) (hnm:o.name.length<9223372036854775807)
  (hrow:RRow w (.slice sa o.ssrcs.length sc) o.ssrcs.length (u32s o.ssrcs)) :
  Calls Tryz.prog 77 #[.pointer (some ⟨b,0,none⟩),.agg #[.int .i64 o.kind,.int .i64 o.peer,.int .i64 o.source,.int .i64 o.layer,.string (str o.name),.slice sa o.ssrcs.length sc,.slice ba bl bc]] w (DoPost b R o w):=by
 have CW:=Lib.hid (fun (w1:World) (h:Below w.heap.size w w1)=>wrong_any b R o sa ba sc bl bc w1 (hR.below h) (Utf8Tabs_below hT h) hnm (names_short hI) (hrow.below h))
 have CT:=Lib.hid (fun (w1:World) (h:Below w.heap.size w w1) (ok:wrong R o=0)=>turns_any b R o sa ba sc bl bc w1 (hR.below h) hI (wrong_ok ok) (hrow.below h))
 have hb:=hR.lt
 have HRB:Hid (∀ w1,Below w.heap.size w w1→RoomAt w1 b R):=fun w1 h=>hR.below h
 have HDW:=Lib.hid (fun (w':World) x=>@doPost_wrong b R o w w' x)
 have HDR:=Lib.hid (fun (w1 w':World) v=>@doPost_right b R o w w1 w' v)
 have HTV:=Lib.hid (fun (w1 w':World) e=>@turnsPost_val b R o w1 w' e)
 clear hR hI hT hnm hrow
 obtain ⟨kd,p,n,q,nm,ss⟩:=o
 dsimp only at *
 generalize DoPost b R ⟨kd,p,n,q,nm,ss⟩ w=DP at *
 generalize hwx:wrong R ⟨kd,p,n,q,nm,ss⟩=x at *
 have HX:=Lib.hid hwx
 clear hwx
 by_cases hx:x=0
 ·subst hx
  go_enter Tryz.func77,Tryz.ntmps77
  go_wp2_with fail
  refine (CW.out _ (below_alloc _ _)).mono ?_
  rintro e w1 ⟨rfl,hb1⟩
  have c0:=cell_below (a:=⟨w.heap.size,0,none⟩) hb1 (v:= .int .i64 kd) (by simp)
  have c1:=cell_below (a:=⟨w.heap.size,1,none⟩) hb1 (v:= .int .i64 p) (by simp)
  have c2:=cell_below (a:=⟨w.heap.size,2,none⟩) hb1 (v:= .int .i64 n) (by simp)
  have c3:=cell_below (a:=⟨w.heap.size,3,none⟩) hb1 (v:= .int .i64 q) (by simp)
  have c4:=cell_below (a:=⟨w.heap.size,4,none⟩) hb1 (v:= .string (str nm)) (by simp)
  have c5:=cell_below (a:=⟨w.heap.size,5,none⟩) hb1 (v:= .slice sa ss.length sc) (by simp)
  have c6:=cell_below (a:=⟨w.heap.size,6,none⟩) hb1 (v:= .slice ba bl bc) (by simp)
  have hbl:Below w.heap.size w w1:=(below_alloc _ _).trans (hb1.mono (by simp))
  clear hb1
  go_wp2_with fail
  refine (CT.out _ hbl trivial).mono ?_
  intro e w2 hp
  obtain ⟨tv,rfl,hp⟩:=HTV.out _ _ _ hp
  have HP:=Lib.hid hp
  clear hp
  go_wp2_with fail
  exact HDR.out _ _ _ (by first|exact rfl|exact trivial) hbl HP.out
 ·have hbq:(x != 0)=true:=by rw [bne_iff_ne];exact hx
  have HXN:=Lib.hid hx
  clear hx
  go_enter Tryz.func77,Tryz.ntmps77
  go_wp2_with fail
  refine (CW.out _ (below_alloc _ _)).mono ?_
  rintro e w1 ⟨rfl,hb1⟩
  have hbl:Below w.heap.size w w1:=(below_alloc _ _).trans (hb1.mono (by simp))
  clear hb1
  go_wp2_with fail
  exact HDW.out _ _ (by first|exact rfl|exact trivial) HXN.out (HRB.out _ hbl) (Fr.of_below _ hbl)
end Go.Proofs.Rm
namespace Go.Proofs.Rm
open Go.RowKit Go.Proofs.Heap Go.Proofs.Mem
theorem zeros_at:∀ j,j<297→(((List.range 297).map (roomCell empty)).toArray)[j]?=some (roomCell empty j):=by
 intro j hj
 simp [hj]
set_option maxRecDepth 100000 in
set_option maxHeartbeats 2000000 in
theorem New_any (w:World):Calls Tryz.prog 69 #[] w fun e w'=>e = .returned (.pointer (some ⟨w.heap.size,0,none⟩))∧RoomAt w' w.heap.size empty∧Below w.heap.size w w':=by
 go_enter Tryz.func69,Tryz.ntmps69
 go_wp2
 go_ret
 have HZ:Tryz.zeroCells152=((List.range 297).map (roomCell empty)).toArray:=by kernel_rfl
 refine ⟨rfl,⟨⟨_,heap_new _ _,by rw [HZ];simp,fun j hj=>by rw [HZ];exact zeros_at j hj⟩,fun n _=>Row.nil _ _⟩,below_alloc _ _⟩
theorem ofGo_lt (R:Room) (x:Int):∀ k n:Nat,n+k≤9→0≤(ofGo R x k n).1∧(ofGo R x k n).1<9
 | 0,_,_=>by simp [ofGo]
 | k+1,n,h=>by
  unfold ofGo
  split
  ·dsimp only;omega
  ·exact ofGo_lt R x k (n+1) (by omega)
theorem of_lt (R:Room) (x:Int):0≤(of R x).1∧(of R x).1<9:=ofGo_lt R x 9 0 (by omega)
set_option maxHeartbeats 2000000 in
theorem Gone_any (b:Nat) (R:Room) (p x:Int) (w:World) (hR:RoomAt w b R) :
  Calls Tryz.prog 132 #[.pointer (some ⟨b,0,none⟩),.int .i64 p,.int .u32 x] w fun e w'=>
   (∃ v,e = .returned (.tuple #[v,.int .i64 (goneOp R p x).2])∧TurnRow w' v (goneOp R p x).1.1)∧RoomAt w' b (goneOp R p x).1.2∧Fr w.heap.size (· = b) w w':=by
 have hb:=hR.lt
 have CO:=Lib.hid (Of_any b R x w hR)
 have hlt:=of_lt R x
 have HG:Hid (goneOp R p x=if !(of R x).2.2 || !joined R p || decide ((R.src (of R x).1.toNat).own≠p) then (([],R),8) else (gone R (of R x).1.toNat,0)):=rfl
 have HR:Hid (∀ w1,Below w.heap.size w w1→RoomAt w1 b R):=fun w1 h=>hR.below h
 clear hR
 generalize of R x=o at *
 obtain ⟨o1,o2,o3⟩:=o
 dsimp only at *
 obtain ⟨n,rfl⟩:=Int.eq_ofNat_of_zero_le hlt.1
 rw [Int.toNat_natCast] at HG
 have hn:n<9:=by omega
 cases o3
 ·have HF:Hid (goneOp R p x=(([],R),8)):=by show _=_;rw [HG.out];rfl
  go_enter Tryz.func132,Tryz.ntmps132
  go_wp2_with (go_at_call 127;refine CO.out.mono ?_;rintro e w1 ⟨rfl,hb1⟩)
  go_ret2
  rw [HF.out]
  exact ⟨⟨_,rfl,Row.nil _ _⟩,HR.out _ hb1,Fr.of_below _ hb1⟩
 have CJ:Hid (∀ w1,Below w.heap.size w w1→_):=fun w1 h=>Joined_any b R p w1 (HR.out w1 h)
 have CG:Hid (∀ w1,Below w.heap.size w w1→_):=fun w1 h=>gone_any b R n w1 (HR.out w1 h) hn
 have HSC:Hid (∀ w1,Below w.heap.size w w1→w1.cell? ⟨b,9+n*5+1+1,none⟩=some (.int .i64 (R.src n).own)):=fun w1 h=>((HR.out w1 h).srcc hn).2.2.1
 cases hj:joined R p
 ·have HF:Hid (goneOp R p x=(([],R),8)):=by show _=_;rw [HG.out,hj];rfl
  rw [hj] at CJ
  clear hj
  go_enter Tryz.func132,Tryz.ntmps132
  go_wp2_with (first|(go_at_call 127;refine CO.out.mono ?_;rintro e w1 ⟨rfl,hb1⟩)|(go_at_call 80;refine (CJ.out _ hb1).mono ?_;rintro e w2 ⟨rfl,rfl⟩))
  go_ret2
  rw [HF.out]
  exact ⟨⟨_,rfl,Row.nil _ _⟩,HR.out _ hb1,Fr.of_below _ hb1⟩
 rw [hj] at CJ HG
 clear hj
 by_cases ho:(R.src n).own=p
 ·have HF:Hid (goneOp R p x=(gone R n,0)):=by show _=_;rw [HG.out];simp [ho]
  rw [ho] at HSC
  clear ho HG
  generalize gone R n=G at *
  go_enter Tryz.func132,Tryz.ntmps132
  go_wp2_with (first|(go_at_call 127;refine CO.out.mono ?_;rintro e w1 ⟨rfl,hb1⟩;have hsc:=HSC.out _ hb1)|(go_at_call 80;refine (CJ.out _ hb1).mono ?_;rintro e w2 ⟨rfl,rfl⟩)|(go_at_call 137;refine (CG.out _ hb1).mono ?_;rintro e w2 ⟨⟨tv,rfl,htr⟩,hroom,hfr⟩))
  go_ret2
  rw [HF.out]
  exact ⟨⟨_,rfl,htr⟩,hroom,(Fr.of_below _ hb1).trans (hfr.mono hb1.size (fun _ _ h=>h))⟩
 ·have HF:Hid (goneOp R p x=(([],R),8)):=by show _=_;rw [HG.out];simp [ho]
  have hbq:((R.src n).own != p)=true:=by rw [bne_iff_ne];exact ho
  clear ho HG
  go_enter Tryz.func132,Tryz.ntmps132
  go_wp2_with (first|(go_at_call 127;refine CO.out.mono ?_;rintro e w1 ⟨rfl,hb1⟩;have hsc:=HSC.out _ hb1)|(go_at_call 80;refine (CJ.out _ hb1).mono ?_;rintro e w2 ⟨rfl,rfl⟩))
  go_ret2
  rw [HF.out]
  exact ⟨⟨_,rfl,Row.nil _ _⟩,HR.out _ hb1,Fr.of_below _ hb1⟩
end Go.Proofs.Rm
namespace Go.Proofs.Rm
open Go.RowKit Go.Proofs.Heap Go.Proofs.Mem
end Go.Proofs.Rm
namespace Go.Proofs.Rm
open Go.RowKit Go.Proofs.Heap Go.Proofs.Mem
section
end
end Go.Proofs.Rm
namespace Go.Proofs.Frame
open Go.RowKit Go.WideShapes Go.ChangeShapes
section
variable {H:Type} {enc:TypeId × Value→H} {P:Program}
theorem trodAll_stays (hl:laidOutB P=true) {W W':World} {sp':Nat→Bool} (hb:Below W.heap.size W W'):∀ {ts:List TypeId} {vs:List Value} {ds:List (DataW H)} {ps:List MemPlace},
  (∀ t∈ts,P.readableRec t=true∧t<P.types.size)→DataW.TrodAll enc P W 0 (fun _=>true) true ts vs ds ps→(∀ p∈ps,p.block<W.heap.size)→(∀ p∈ps,sp' p.block=true) →
  DataW.TrodAll enc P W' 0 sp' true ts vs ds ps
 | [],[],[],_,_,h,_,_=>h
 | t :: ts,v :: vs,d :: ds,ps,ht,h,hlt,hsp=>by
  obtain ⟨p,q,h1,h2,rfl⟩:=h
  refine ⟨p,q,?_,?_,rfl⟩
  ·exact WideElems.Trod_stays hl (ht t (List.mem_cons_self ..)).1 (ht t (List.mem_cons_self ..)).2 h1 (fun x hx=>hb.same (hlt x (List.mem_append.2 (Or.inl hx)))) (fun x hx=>hsp x (List.mem_append.2 (Or.inl hx)))
  ·exact trodAll_stays hl hb (fun t' h'=>ht t' (List.mem_cons_of_mem _ h')) h2 (fun x hx=>hlt x (List.mem_append.2 (Or.inr hx))) (fun x hx=>hsp x (List.mem_append.2 (Or.inr hx)))
 | [],[],_ :: _,_,_,h,_,_=>h.elim
 | [],_ :: _,_,_,_,h,_,_=>h.elim
 | _ :: _,[],_,_,_,h,_,_=>h.elim
 | _ :: _,_ :: _,[],_,_,h,_,_=>h.elim
theorem law_post {f:Func} {s:ChangeSpec} {apart fresh handsOn again:Bool} {W W':World} {args:Array Value} {ds gs:List (DataW H)} {before:List MemPlace} {tb:TypeId}
  (hW:DataW.Whole enc P f.params.toList s.vars apart W args.toList ds gs before) (hl:laidOutB P=true) (ht:∀ t∈f.params.toList,P.readableRec t=true∧t<P.types.size)
  (hv:s.vars=[]) (hs:s.fn H (ds++gs)={results:=[.lit (.bool true)],args:=ds}) (hres:f.resultTypes=#[tb]) (hbool:P.underlying tb=some .bool)
  (hb:Below W.heap.size W W') :
  s.post enc P f apart fresh handsOn again W args (.bool true) W':=by
 have hlt:∀ p∈before,p.block<W.heap.size:=fun p hp=>hW.lt p hp
 have hold:∀ p∈before,(fun b=>decide (b<W.heap.size)) p.block=true:=fun p hp=>by simpa using hlt p hp
 have hW0:=hW
 obtain ⟨p,q,hA,hV,hpq,hz,hn⟩:=hW
 rw [hv] at hV
 obtain ⟨rfl,rfl⟩:=trodVars_none hV
 rw [List.append_nil] at hpq
 subst hpq
 have hargs:∀ sp:Nat→Bool,(∀ p∈before,sp p.block=true)→DataW.TrodAll enc P W' 0 sp true f.params.toList args.toList (s.fn H (ds++[])).args before:=by
  intro sp hsp
  rw [hs]
  exact trodAll_stays hl hb ht hA hlt hsp
 have hr:∀ (b:Nat) (sp:Nat→Bool) (hd:Bool),DataW.TrodAll enc P W' b sp hd f.resultTypes.toList ((Value.bool true).resultList f.resultTypes.size) (s.fn H (ds++[])).results []:=by
  intro b sp hd
  rw [hs,hres]
  exact trodAll_cons_mk (shut_bool hbool _) trodAll_mk0
 have hvars:∀ sp:Nat→Bool,(∀ p∈before,sp p.block=true)→DataW.TrodVars enc P W' sp s.vars (s.fn H (ds++[])).vars []:=by
  intro sp _
  rw [hs,hv]
  rfl
 have hok:∀ (j:Nat) (t:TypeId) (r:Value),f.resultTypes[j]?=some t→((Value.bool true).resultList f.resultTypes.size)[j]?=some r→Value.okWide P W' .any 0 t r:=by
  exact ok_one hres rfl (okWide_bool_mk hbool _)
 refine ⟨ds,[],before,[],before,[],hW0,hr _ _ _,hargs _ hold,hvars _ hold,World.keptBut_mono (fun p hp=>⟨hp,?_⟩) (hb.frame (· ∈ before)),fun _=>?_⟩
 ·simpa using hp
 ·refine ⟨hok,_,_,([]++before)++[],⟨[]++before,[],trodAll_append (hargs _ (fun _ _=>rfl)) (hr _ _ _),hvars _ (fun _ _=>rfl),rfl,?_,?_⟩,?_⟩
  ·intro b off hp
   have hin:MemPlace.cell b off∈before:=by simpa using hp
   rw [hb.frozen (hlt _ hin)]
   exact hz b off hin
  ·intro ha
   simpa using hn ha
  ·intro p hp _
   simpa using hp
theorem cells_slice {r:Reach} {b0:Nat} {t e:TypeId} {W:World} {v:Value} (ht:P.underlying t=some (.slice e)) (h:Value.okWide P W r b0 t v):v.cells=#[v]:=by
 obtain ⟨a,l,c,rfl⟩:=okWide_slice ht h
 rfl
end
end Go.Proofs.Frame
namespace Go.Proofs.Rm
open Go.RowKit Go.WideShapes Go.ChangeShapes Go.Proofs.Heap Go.Proofs.Mem Go.Deep
structure OpV where
 o:Op
 sa:Option Addr
 sc:Nat
 ba:Option Addr
 bl:Nat
 bc:Nat
def opvCells (x:OpV):List Value:=[.int .i64 x.o.kind,.int .i64 x.o.peer,.int .i64 x.o.source,.int .i64 x.o.layer,.string (str x.o.name),.slice x.sa x.o.ssrcs.length x.sc,.slice x.ba x.bl x.bc]
section
variable {H:Type} {enc:TypeId × Value→H} {W:World} {base:Nat} {sp:Nat→Bool} {held:Bool}
theorem spot_none {w:World} {a:Addr} {v:Value} (h:w.cell? a=some v):a=⟨a.block,a.off,none⟩:=by
 obtain ⟨b,o,s⟩:=a
 cases s with
 | none=>rfl
 | some x=>simp [World.cell?] at h;split at h <;> simp_all
theorem add_none {a:Addr} (h:a=⟨a.block,a.off,none⟩) (j:Nat):a.add j=⟨a.block,a.off+j,none⟩:=by
 unfold Addr.add
 split
 ·rename_i h0;subst h0;exact h
 ·rw [h]
theorem trod_u32s {fuel:Nat} {v:Value} {x:DataW H × List MemPlace} (h:DataW.trod enc Tryz.prog W base sp held fuel 29 [v]=some x):∃ (l:List Int) (a:Option Addr) (c:Nat),v = .slice a l.length c∧RRow W (.slice a l.length c) l.length (u32s l):=by
 rcases open_slice1 Tryz.underlying29 Yo3 h with ⟨hc,_⟩|⟨a,len,cap,m,n,V,D,Pl,hcs,hb,hl,hm,hmm,_,hx⟩
 ·exact ⟨[],none,0,by simpa using hc,RRow.nil _⟩
 ·have hlm:len≤m:=by rw [hmm];split <;> omega
  have hv:v = .slice (some a) len cap:=by simpa using hcs
  have key:∀ i,i<len→∃ z,W.cell? (a.add i)=some (.int .u32 z)∧V i = .int .u32 z:=by
   intro i hi
   obtain ⟨h1,h2⟩:=hx i (by omega)
   obtain ⟨z,hz,_⟩:=DataW.trod_int Tryz.underlying66 h2
   have hz:V i = .int .u32 z:=by simpa using hz
   exact ⟨z,by rw [h1,hz],hz⟩
  let l:List Int:=(List.range len).map fun i=>match V i with | .int _ z=>z|_=>0
  have hll:l.length=len:=by simp [l]
  refine ⟨l,some a,cap,by rw [hll];exact hv,some a,cap,rfl,by rw [hll];exact hl,hm,(fun h=>by cases h),?_⟩
  by_cases h0:len=0
  ·exact Or.inl (List.eq_nil_of_length_eq_zero (by rw [u32s_length,hll];exact h0))
  ·obtain ⟨z0,hz0,_⟩:=key 0 (by omega)
   have hz0':W.cell? a=some (.int .u32 z0):=by unfold Addr.add at hz0;simpa using hz0
   have ha:=spot_none hz0'
   refine Or.inr ⟨a.block,a.off,by rw [←ha],World.block_lt_of_cell? W a hz0',fun j hj=>?_⟩
   rw [u32s_length,hll] at hj
   obtain ⟨z,hz,hV⟩:=key j hj
   rw [←add_none ha,hz]
   simp [u32s,l,hj,hV]
theorem seven {α:Type} {l:List α} (h:l.length=7):∃ c0 c1 c2 c3 c4 c5 c6,l=[c0,c1,c2,c3,c4,c5,c6]:=by
 obtain _|⟨c0,l⟩:=l
 ·simp at h
 obtain _|⟨c1,l⟩:=l
 ·simp at h
 obtain _|⟨c2,l⟩:=l
 ·simp at h
 obtain _|⟨c3,l⟩:=l
 ·simp at h
 obtain _|⟨c4,l⟩:=l
 ·simp at h
 obtain _|⟨c5,l⟩:=l
 ·simp at h
 obtain _|⟨c6,l⟩:=l
 ·simp at h
 obtain _|⟨c7,l⟩:=l
 ·exact ⟨_,_,_,_,_,_,_,rfl⟩
 ·simp at h
theorem weights_all {P:Program} {e:TypeId}:∀ {l:List (DataW H)} {d:DataW H},d∈l→∀ n∈d.weights P e,n∈DataW.weightsAll P e l
 | d0 :: l,d,hd,n,hn=>by
  simp only [DataW.weightsAll,List.mem_append]
  rcases List.mem_cons.1 hd with rfl|hd
  ·exact Or.inl hn
  ·exact Or.inr (weights_all hd n hn)
 | [],_,hd,_,_=>by simp at hd
end
end Go.Proofs.Rm
namespace Go.Proofs.Rm
open Go.RowKit Go.Proofs.Heap Go.Proofs.Mem
end Go.Proofs.Rm
namespace Go.Proofs.Rm
open Go.RowKit Go.Proofs.Heap Go.Proofs.Mem
end Go.Proofs.Rm
namespace Go.Proofs.Rm
open Go.RowKit Go.Proofs.Heap Go.Proofs.Mem
end Go.Proofs.Rm
namespace Go.Proofs.Rm
open Go.RowKit Go.Proofs.Heap Go.Proofs.Mem
open Go.Proofs.Lab (may key Tabs)
theorem row_atR {α:Type} (f:α→List Value) (k:Nat) (hk:∀ x,(f x).length=k) (hk0:0<k) {w:World} {v:Value} {n:Nat} {l:List α} (h:RRow w v n (l.flatMap f)) (hl:0<l.length) :
  ∃ g off cap,v = .slice (some ⟨g,off,none⟩) n cap∧n≤cap∧cap≤maxLen∧g<w.heap.size∧∀ (i:Nat) (x:α),l[i]?=some x→∀ j,j<k→w.cell? ⟨g,off+i*k+j,none⟩=(f x)[j]?:=by
 exact Yx80
structure Slim (R:Room):Prop where
 short:∀ n,(R.src n).ss.length≤1000000
theorem slim_setSrc {R:Room} (h:Slim R) (n:Nat) (x:Src) (hx:x.ss.length≤1000000):Slim (R.setSrc n x):=⟨fun m=>by rw [setSrc_src];split;exact hx;exact h.short m⟩
theorem slim_gone {R:Room} (h:Slim R) (n:Nat):Slim (gone R n).2:=⟨fun m=>by rw [gone_src];split;exact Nat.zero_le _;exact h.short m⟩
theorem slim_leave {R:Room} (h:Slim R) (p:Nat):Slim (leave R p).2:=by
 have h1:Slim (leave1 p R 9).2:=⟨fun m=>by rw [(leave1_names R p 9).2];exact h.short m⟩
 exact ⟨fun m=>by show ((leave2 (leave1 p R 9).2 p 9).2.src m).ss.length≤_;rw [leave2_src];split;exact Nat.zero_le _;exact h1.short m⟩
theorem slim_turns {R:Room} {o:Op} (h:Slim R) (ok:Ok R o) (sv:Value):Slim (turns R o sv).2:=by
 unfold turns
 dsimp only
 by_cases k2:o.kind=2
 ·rw [if_pos k2];exact ⟨h.short⟩
 rw [if_neg k2]
 by_cases k3:o.kind=3
 ·rw [if_pos k3];exact slim_leave h _
 rw [if_neg k3]
 by_cases k4:o.kind=4
 ·rw [if_pos k4];exact slim_setSrc h _ _ (by have:=(pub_ok (ok.pub k4)).2.1;show o.ssrcs.length≤_;omega)
 rw [if_neg k4]
 by_cases k5:o.kind=5
 ·rw [if_pos k5];exact slim_gone h _
 rw [if_neg k5]
 by_cases k6:o.kind=6
 ·rw [if_pos k6];exact ⟨h.short⟩
 rw [if_neg k6]
 by_cases k7:o.kind=7
 ·rw [if_pos k7];exact ⟨h.short⟩
 rw [if_neg k7]
 by_cases k8:o.kind=8
 ·rw [if_pos k8];exact slim_setSrc h _ _ (h.short _)
 rw [if_neg k8]
 by_cases k9:o.kind=9
 ·rw [if_pos k9];exact slim_setSrc h _ _ (h.short _)
 rw [if_neg k9]
 split
 ·exact ⟨h.short⟩
 split
 ·exact ⟨h.short⟩
 split
 ·exact ⟨h.short⟩
 ·exact h
theorem slim_doo {R:Room} (h:Slim R) (o:Op) (sv:Value):Slim (doo R o sv).1.2:=by
 unfold doo
 by_cases h0:wrong R o=0
 ·rw [if_neg (by simpa using h0)];exact slim_turns h (wrong_ok h0) sv
 ·rw [if_pos h0];exact h
theorem slim_empty:Slim empty:=⟨fun _=>Nat.zero_le _⟩
theorem slim_goneOp {R:Room} (h:Slim R) (p x:Int):Slim (goneOp R p x).1.2:=by
 unfold goneOp
 split
 ·exact h
 ·exact slim_gone h _
end Go.Proofs.Rm
namespace Go.Proofs.Rm
open Go.RowKit Go.Proofs.Heap Go.Proofs.Mem
open Go.Proofs.Lab (may key Tabs)
end Go.Proofs.Rm
namespace Go.Proofs.Rm
open Go.RowKit Go.Proofs.Heap Go.Proofs.Mem
open Go.Proofs.Lab (may key Tabs)
theorem Source_any (b:Nat) (R:Room) (n:Nat) (w:World) (hR:RoomAt w b R) (hI:Inv R) (hl:∀ n,(R.src n).ss.length≤1000000) :
  Calls Tryz.prog 81 #[.pointer (some ⟨b,0,none⟩),.int .i64 n] w fun e w'=>
   (∃ (nm ow:Int) (a:Option Addr) (k c:Nat) (mu has:Bool),e = .returned (.tuple #[.agg #[.int .i64 nm,.int .i64 ow,.slice a k c,.bool mu],.bool has])∧has=(R.src n).there∧(has=true→ow=(R.src n).own))∧Below w.heap.size w w':=by
 cases ht:(R.src n).there
 ·refine (Source_no b R n w hR ?_).mono ?_
  ·rw [Int.toNat_natCast,ht,Bool.and_false]
  ·rintro e w' ⟨rfl,hb⟩
   exact ⟨⟨_,_,_,_,_,_,_,rfl,rfl,fun h=>by cases h⟩,hb⟩
 ·have hs:=hI.srcAt n ht
  refine (Source_yes b R n w hR ⟨hs.1,hs.2.1⟩ ht (hl n)).mono ?_
  rintro e w' ⟨⟨v',rfl,⟨a,c,rfl,_⟩⟩,hb⟩
  exact ⟨⟨_,_,_,_,_,_,_,rfl,rfl,fun _=>rfl⟩,hb⟩
end Go.Proofs.Rm
