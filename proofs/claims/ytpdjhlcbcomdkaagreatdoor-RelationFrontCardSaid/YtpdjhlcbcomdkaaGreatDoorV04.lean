/- Several texts in one: Frames and rows: which blocks a call may change; what a slice's cells are. Over any program. Bytes as a list, in memory and as numbers. No program in sight, but the type numbers of a row. Append to a slice of the call's own, whatever slice is appended (nil too); with whole rows of cells. Over any program. Slices of slices: what is cut off in front and behind, as rows of cells. Over any program. Slices of slices: a piece out of the middle, as a row of cells. Over any program. The walks of package field, and of the reference's numbers in bytes: within, Get. What package rtp, package desc compute of bytes. Plain. The walks of package rtp: feedback, number, extension, padding. The walks of package rtp: look. What packages report, rtcp, sift compute of bytes. Plain. -/
import Derived.WalkKit
import Derived.Lib.Hide
import Derived.Laws.AppendOwn
import Derived.Laws.OwnMore
import Derived.Laws.BitsAllLaws
import Derived.Laws.AppendOwnNone
import Derived.OwnWalk
import Derived.Laws.Slices
import Derived.Test.YtpdjhlcbcomdkaaGreatDoorChecked
import Derived.Lib.Walk
import Derived.LoopTactic
import Derived.Test.YtpdjhlcbcomdkaaGreatDoorV01
import Derived.Test.YtpdjhlcbcomdkaaGreatDoorV02
set_option linter.unusedVariables false
set_option linter.unusedSimpArgs false
namespace Go.Proofs.Heap
open Go.RowKit
structure Fr (B:Nat) (S:Nat→Prop) (w w':World):Prop where
 os:w'.os=w.os
 tape:w'.tape=w.tape
 output:w'.output=w.output
 size:w.heap.size≤w'.heap.size
 block:∀ k,k<B→¬S k→w'.heap[k]?=w.heap[k]?
def NoB:Nat→Prop:=fun _=>False
theorem Fr.of_below {B:Nat} {w w':World} (S:Nat→Prop) (h:Below B w w'):Fr B S w w':=⟨h.os,h.tape,h.output,h.size,fun k hk _=>h.block k hk⟩
theorem Fr.below {B:Nat} {w w':World} (h:Fr B NoB w w'):Below B w w':=⟨h.os,h.tape,h.output,h.size,fun k hk=>h.block k hk (fun x=>x)⟩
theorem Fr.refl (B:Nat) (S:Nat→Prop) (w:World):Fr B S w w:=⟨rfl,rfl,rfl,Nat.le_refl _,fun _ _ _=>rfl⟩
theorem Fr.trans {B:Nat} {S:Nat→Prop} {a b c:World} (h:Fr B S a b) (k:Fr B S b c):Fr B S a c:=
 ⟨k.os.trans h.os,k.tape.trans h.tape,k.output.trans h.output,Nat.le_trans h.size k.size,fun i hi hs=>(k.block i hi hs).trans (h.block i hi hs)⟩
theorem Fr.mono {B B':Nat} {S S':Nat→Prop} {w w':World} (h:Fr B S w w') (hB:B'≤B) (hS:∀ k,k<B'→S k→S' k):Fr B' S' w w':=
 ⟨h.os,h.tape,h.output,h.size,fun k hk hs=>h.block k (Nat.lt_of_lt_of_le hk hB) (fun x=>hs (hS k hk x))⟩
theorem Fr.drew {B:Nat} {S:Nat→Prop} {a w:World} (h:Fr B S a w):Fr B S a w.drew:=⟨h.os,h.tape,h.output,h.size,h.block⟩
theorem Fr.alloc {B:Nat} {S:Nat→Prop} {a w:World} (h:Fr B S a w) (hB:B≤w.heap.size) (o:Obj):Fr B S a (w.alloc o):=
 h.trans ⟨rfl,rfl,rfl,by simp,fun k hk _=>Below.heap_alloc _ _ _ (by omega)⟩
theorem Fr.setCell {B:Nat} {S:Nat→Prop} {a w:World} (h:Fr B S a w) {p:Addr} (hp:B≤p.block∨S p.block) (u:Value):Fr B S a (w.setCell p u):=
 h.trans ⟨rfl,rfl,rfl,by simp [World.setCell],fun k hk hs=>Below.heap_setCell _ _ _ _ (fun e=>by subst e;rcases hp with h|h;omega;exact hs h)⟩
theorem Fr.grown {B:Nat} {S:Nat→Prop} {a w w':World} {row:Option Nat} (h:Fr B S a w) (hg:w.grownBy w' row) (hB:B≤w.heap.size) (hr:∀ k,row=some k→B≤k):Fr B S a w':=
 h.trans ⟨hg.os,hg.tape,hg.output,hg.size,fun k hk _=>hg.block k (by omega) (fun e=>by have:=hr k e.symm;omega)⟩
theorem Fr.cell {B:Nat} {S:Nat→Prop} {w w':World} (h:Fr B S w w') {p:Addr} (hp:p.block<B) (hs:¬S p.block):w'.cell? p=w.cell? p:=World.cell?_of_block (w:=w) (h.block p.block hp hs)
theorem Fr.frozen {B:Nat} {S:Nat→Prop} {w w':World} (h:Fr B S w w') {p:Addr} (hp:p.block<B) (hs:¬S p.block):w'.frozen? p=w.frozen? p:=World.frozen?_of_block (w:=w) (h.block p.block hp hs)
theorem bcell {W w1:World} (hb:Below W.heap.size W w1):(∀ b o,b<W.heap.size→w1.cell? ⟨b,o,none⟩=W.cell? ⟨b,o,none⟩)∧(∀ b o,b<W.heap.size→w1.frozen? ⟨b,o,none⟩=W.frozen? ⟨b,o,none⟩):=
 ⟨fun b o h=>hb.cell (p:=⟨b,o,none⟩) h,fun b o h=>hb.frozen (p:=⟨b,o,none⟩) h⟩
theorem Fr.setAt {B b:Nat} {a w:World} (h:Fr B (· = b) a w) (o:Nat) (u:Value):Fr B (· = b) a (w.setCell ⟨b,o,none⟩ u):=h.setCell (p:=⟨b,o,none⟩) (Or.inr rfl) u
theorem below_alloc (w:World) (o:Obj):Below w.heap.size w (w.alloc o):=(Below.refl _ _).alloc (Nat.le_refl _) _
theorem size_setCell (w:World) (a:Addr) (v:Value):(w.setCell a v).heap.size=w.heap.size:=by simp [World.setCell]
theorem size_alloc (w:World) (o:Obj):(w.alloc o).heap.size=w.heap.size+1:=by simp
def Row (w:World) (e:TypeId) (v:Value) (n:Nat) (xs:List Value):Prop:=
 ∃ a cap,v = .slice a n cap∧n≤cap∧cap≤maxLen∧(a=none→n=0∧cap=0)∧(xs=[]∨∃ b off c fr,a=some ⟨b,off,none⟩∧w.heap[b]?=some (.cells c e fr)∧∀ j,j<xs.length→c[off+j]?=xs[j]?)
theorem Row.fr {B:Nat} {S:Nat→Prop} {w w':World} {e:TypeId} {v:Value} {n:Nat} {xs:List Value} (h:Row w e v n xs) (hf:Fr B S w w') (hB:w.heap.size≤B) (hS:∀ k c fr,S k→w.heap[k]?≠some (.cells c e fr)):Row w' e v n xs:=by
 obtain ⟨a,cap,hv,h1,h2,h0,h3⟩:=h
 refine ⟨a,cap,hv,h1,h2,h0,?_⟩
 rcases h3 with h3|⟨b,off,c,fr,ha,hb,hc⟩
 ·exact Or.inl h3
 ·have hlt:b<w.heap.size:=by
   rcases Nat.lt_or_ge b w.heap.size with h|h
   ·exact h
   ·rw [Array.getElem?_eq_none h] at hb;cases hb
  exact Or.inr ⟨b,off,c,fr,ha,by rw [hf.block b (by omega) (fun hs=>hS b c fr hs hb)];exact hb,hc⟩
theorem Row.below {w w':World} {e:TypeId} {v:Value} {n:Nat} {xs:List Value} (h:Row w e v n xs) (hb:Below w.heap.size w w'):Row w' e v n xs:=
 h.fr (Fr.of_below NoB hb) (Nat.le_refl _) (fun _ _ _ h=>h.elim)
theorem Row.setCell {w:World} {e:TypeId} {v:Value} {n:Nat} {xs:List Value} (h:Row w e v n xs) {p:Addr} {c:Array Value} {e2:TypeId} {f:Nat × Nat} (hp:w.heap[p.block]?=some (.cells c e2 f)) (hne:e≠e2) (u:Value):Row (w.setCell p u) e v n xs:=
 h.fr ((Fr.refl w.heap.size (· = p.block) w).setCell (Or.inr rfl) u) (Nat.le_refl _) (fun k c' fr hk he=>by subst hk;rw [hp] at he;injection he with he;injection he with _ he _;exact hne he.symm)
theorem heap_new (w:World) (o:Obj):(w.alloc o).heap[w.heap.size]?=some o:=by show (w.heap.push o)[w.heap.size]?=_;simp
theorem two_new (w:World) (A B:Obj):((w.alloc A).alloc B).heap[w.heap.size]?=some A∧((w.alloc A).alloc B).heap[w.heap.size+1]?=some B:=by
 constructor
 ·rw [Below.heap_alloc _ _ _ (by simp)];exact heap_new w A
 ·have:=heap_new (w.alloc A) B
  rwa [World.size_alloc] at this
theorem cells_ne {c c':Array Value} {e e':TypeId} {f f':Nat × Nat} (h:e≠e'):some (Obj.cells c e f)≠some (Obj.cells c' e' f'):=by
 intro he;injection he with he;injection he with _ he _;exact h he
theorem Row.nil (w:World) (e:TypeId):Row w e (.slice none 0 0) 0 []:=⟨none,0,rfl,Nat.le_refl _,Nat.zero_le _,fun _=>⟨rfl,rfl⟩,Or.inl rfl⟩
theorem Row.of_owns {w:World} {base:Nat} {e:TypeId} {size:Nat} {v:Value} {n:Nat} {xs:List Value} (h:w.ownsRow base e size v n xs):Row w e v n xs:=by
 obtain ⟨hl,h⟩:=h
 rcases h with ⟨hv,hn⟩|⟨g,cap,cur,hv,_,hh,h1,h2,h3,h4⟩
 ·subst hn
  have:xs=[]:=List.eq_nil_of_length_eq_zero (by omega)
  subst this
  exact ⟨none,0,hv,Nat.le_refl _,Nat.zero_le _,fun _=>⟨rfl,rfl⟩,Or.inl rfl⟩
 ·refine ⟨some ⟨g,0,none⟩,cap,hv,h1,h2,(fun h=>by cases h),Or.inr ⟨g,0,cur,_,rfl,hh,fun j hj=>?_⟩⟩
  rw [Nat.zero_add,←h4,List.getElem?_take_of_lt (by omega)]
  simp
theorem owns_empty (w:World) (e:TypeId) (size:Nat):(w.alloc (.cells #[] e)).ownsRow w.heap.size e size (.slice (some ⟨w.heap.size,0,none⟩) 0 0) 0 []:=
 ⟨by simp,.inr ⟨w.heap.size,0,#[],rfl,Nat.le_refl _,(by show (w.heap.push _)[w.heap.size]?=_;simp),Nat.le_refl _,Nat.zero_le _,by simp,by simp⟩⟩
theorem Row.open {w:World} {e:TypeId} {v:Value} {n:Nat} {xs:List Value} (h:Row w e v n xs) (hne:0<xs.length):∃ b off cap,v = .slice (some ⟨b,off,none⟩) n cap∧n≤cap∧cap≤maxLen∧b<w.heap.size∧∀ j,j<xs.length→w.cell? ⟨b,off+j,none⟩=xs[j]?:=by
 obtain ⟨a,cap,hv,h1,h2,_,h3⟩:=h
 rcases h3 with h3|⟨b,off,c,fr,ha,hb,hc⟩
 ·subst h3;simp at hne
 ·subst ha
  have hlt:b<w.heap.size:=by
   rcases Nat.lt_or_ge b w.heap.size with h|h
   ·exact h
   ·rw [Array.getElem?_eq_none h] at hb;cases hb
  refine ⟨b,off,cap,hv,h1,h2,hlt,fun j hj=>?_⟩
  simp only [World.cell?,hb]
  exact hc j hj
theorem Row.len {w:World} {e:TypeId} {v:Value} {n:Nat} {xs:List Value} (h:Row w e v n xs):n≤9223372036854775807:=by
 obtain ⟨a,cap,_,h1,h2,_,_⟩:=h
 unfold maxLen at h2;omega
def RRow (w:World) (v:Value) (n:Nat) (xs:List Value):Prop:=
 ∃ a cap,v = .slice a n cap∧n≤cap∧cap≤maxLen∧(a=none→n=0∧cap=0)∧(xs=[]∨∃ b off,a=some ⟨b,off,none⟩∧b<w.heap.size∧∀ j,j<xs.length→w.cell? ⟨b,off+j,none⟩=xs[j]?)
theorem RRow.below {w w':World} {v:Value} {n:Nat} {xs:List Value} (h:RRow w v n xs) (hb:Below w.heap.size w w'):RRow w' v n xs:=by
 obtain ⟨a,cap,hv,h1,h2,h0,h3⟩:=h
 refine ⟨a,cap,hv,h1,h2,h0,?_⟩
 rcases h3 with h3|⟨b,off,ha,hlt,hc⟩
 ·exact Or.inl h3
 ·exact Or.inr ⟨b,off,ha,Nat.lt_of_lt_of_le hlt hb.size,fun j hj=>(hb.cell (p:=⟨b,off+j,none⟩) hlt).trans (hc j hj)⟩
theorem RRow.len {w:World} {v:Value} {n:Nat} {xs:List Value} (h:RRow w v n xs):n≤9223372036854775807:=by
 obtain ⟨a,cap,_,h1,h2,_,_⟩:=h
 unfold maxLen at h2;omega
theorem RRow.open {w:World} {v:Value} {n:Nat} {xs:List Value} (h:RRow w v n xs) (hne:0<xs.length):∃ b off cap,v = .slice (some ⟨b,off,none⟩) n cap∧n≤cap∧cap≤maxLen∧b<w.heap.size∧∀ j,j<xs.length→w.cell? ⟨b,off+j,none⟩=xs[j]?:=by
 obtain ⟨a,cap,hv,h1,h2,_,h3⟩:=h
 rcases h3 with h3|⟨b,off,ha,hlt,hc⟩
 ·subst h3;simp at hne
 ·subst ha;exact ⟨b,off,cap,hv,h1,h2,hlt,hc⟩
theorem Row.r {w:World} {e:TypeId} {v:Value} {n:Nat} {xs:List Value} (h:Row w e v n xs):RRow w v n xs:=by
 obtain ⟨a,cap,hv,h1,h2,h0,h3⟩:=h
 refine ⟨a,cap,hv,h1,h2,h0,?_⟩
 rcases h3 with h3|⟨b,off,c,fr,ha,hb,hc⟩
 ·exact Or.inl h3
 ·refine Or.inr ⟨b,off,ha,?_,fun j hj=>?_⟩
  ·rcases Nat.lt_or_ge b w.heap.size with h|h
   ·exact h
   ·rw [Array.getElem?_eq_none h] at hb;cases hb
  ·simp only [World.cell?,hb]
   exact hc j hj
theorem RRow.nil (w:World):RRow w (.slice none 0 0) 0 []:=⟨none,0,rfl,Nat.le_refl _,Nat.zero_le _,fun _=>⟨rfl,rfl⟩,Or.inl rfl⟩
theorem flat_at {α:Type} (f:α→List Value) (k:Nat) (hk:∀ x,(f x).length=k):∀ (l:List α) (i j:Nat) (x:α),l[i]?=some x→j<k→(l.flatMap f)[i*k+j]?=(f x)[j]?
 | [],_,_,_,h,_=>by simp at h
 | y :: l,0,j,x,h,hj=>by
  simp only [List.getElem?_cons_zero,Option.some.injEq] at h
  subst h
  rw [List.flatMap_cons,Nat.zero_mul,Nat.zero_add,List.getElem?_append_left (by rw [hk];exact hj)]
 | y :: l,i+1,j,x,h,hj=>by
  rw [List.getElem?_cons_succ] at h
  rw [List.flatMap_cons,List.getElem?_append_right (by rw [hk,Nat.succ_mul];omega),hk,show (i+1)*k+j-k=i*k+j by rw [Nat.succ_mul];omega]
  exact flat_at f k hk l i j x h hj
theorem flat_length {α:Type} (f:α→List Value) (k:Nat) (hk:∀ x,(f x).length=k) (l:List α):(l.flatMap f).length=l.length*k:=by
 induction l with
 | nil=>simp
 | cons y l ih=>rw [List.flatMap_cons,List.length_append,hk,ih,List.length_cons,Nat.succ_mul];omega
end Go.Proofs.Heap
namespace Go.Proofs.By
open Go.RowKit Go.Proofs.Heap
def bys (l:List UInt8):List Value:=l.map fun b=>Value.int .u8 (b.toNat:Int)
theorem bys_length (l:List UInt8):(bys l).length=l.length:=List.length_map _
theorem bys_take (l:List UInt8) (k:Nat):(bys l).take k=bys (l.take k):=(List.map_take).symm
theorem bys_drop (l:List UInt8) (k:Nat):(bys l).drop k=bys (l.drop k):=(List.map_drop).symm
theorem bys_one (l:List UInt8):∀ u∈bys l,u.oneCell'=true:=by
 intro u hu
 obtain ⟨b,_,rfl⟩:=List.mem_map.1 hu
 rfl
def be (l:List UInt8):Nat:=l.foldl (fun n x=>n*256+x.toNat) 0
theorem be_snoc (l:List UInt8) (x:UInt8):be (l++[x])=be l*256+x.toNat:=by unfold be;rw [List.foldl_append];rfl
theorem be_go:∀ (l:List UInt8) (n:Nat),l.foldl (fun n x=>n*256+x.toNat) n<(n+1)*256 ^ l.length
 | [],n=>by simp
 | x :: l,n=>by
  have ih:=be_go l (n*256+x.toNat)
  have hx:=x.toNat_lt
  rw [List.foldl_cons,List.length_cons,Nat.pow_succ,Nat.mul_comm (256 ^ l.length),←Nat.mul_assoc]
  exact Nat.lt_of_lt_of_le ih (Nat.mul_le_mul_right _ (by omega))
theorem be_lt (l:List UInt8):be l<256 ^ l.length:=by
 have:=be_go l 0
 rw [Nat.zero_add,Nat.one_mul] at this
 exact this
theorem be_lt7 {l:List UInt8} (h:l.length≤7):be l<72057594037927936:=
 Nat.lt_of_lt_of_le (be_lt l) (Nat.le_trans (Nat.pow_le_pow_right (by decide) h) (by decide))
theorem be_lt4 {l:List UInt8} (h:l.length≤4):be l<4294967296:=
 Nat.lt_of_lt_of_le (be_lt l) (Nat.le_trans (Nat.pow_le_pow_right (by decide) h) (by decide))
theorem or_byte (n:Nat) (x:UInt8) (h:n<72057594037927936):bits .or .u64 ((n:Int)*256) (x.toNat:Int)=((n*256+x.toNat:Nat):Int):=by
 have hx:=x.toNat_lt
 have e:((n:Int)*256)=((n*256:Nat):Int):=by omega
 rw [e,u64_or_nat (n*256) x.toNat (by omega) (by omega),nat_join 8 (n*256) x.toNat (by omega) (by omega)]
def within (len:Nat) (at' size:Int):Bool:=decide (1≤size) && decide (size≤8) && decide (0≤at') && decide (at'≤(len:Int)-size)
theorem within_iff {len:Nat} {at' size:Int}:within len at' size=true↔1≤size∧size≤8∧0≤at'∧at'+size≤len:=by
 unfold within
 simp only [Bool.and_eq_true,decide_eq_true_eq]
 omega
def get (b:List UInt8) (at' size:Int):Nat:=if within b.length at' size then be ((b.drop at'.toNat).take size.toNat) else 0
end Go.Proofs.By
namespace Go.Proofs.Heap
open Go Go.RowKit
section
variable {P:Program}
structure Elem (P:Program) (t e:TypeId) (size bytes:Nat):Prop where
 ht:P.underlying t=some (.slice e)
 info:∃ z,(P.info? e).map (fun i=>(i.zero,i.size,i.bytes))=some (some z,size,bytes)∧z.cells.size=size
 pos:0<size
theorem wpList_app {ops:Array Oper} {rest:List Oper} {o:Oper} {a:Act} {w:World} {Q:Exit→Act→World→Prop} (hgd:o.guard=none) (s x:Operand) (t:TypeId)
  (ho:o.op = .call {callee:= .builtin .append,args:=#[s,x],argTypes:=#[t,t]})
  (base:Nat) {e:TypeId} {size bytes:Nat} (E:Elem P t e size bytes)
  (v:Value) (n:Nat) (xs:List Value) (hs:a.eval s=v) (hown:w.ownsRow base e size v n xs)
  (vx:Value) (m:Nat) (news:List Value) (hx:a.eval x=vx) (hrow:Row w e vx m news) (hl:news.length=m*size) (h1:∀ u∈news,u.oneCell'=true)
  (hbytes:(n+m)*bytes≤140737488355328) (h63:n+m≤9223372036854775807) (hbase:base≤w.heap.size)
  (h:∀ v' w',Hid (w'.ownsRow base e size v' (n+m) (xs++news))→Hid (w.grownBy w' v.ownBlock)→wpList P ops Q rest (a.put o.dst v') w'):wpList P ops Q (o :: rest) a w:=by
 obtain ⟨z,hinfo,hzs⟩:=E.info
 obtain ⟨i,hi,hz,hsize,hby⟩:=info_parts hinfo
 obtain ⟨ad,cap,hv,_,_,h0,hr⟩:=hrow
 subst hv
 have h63':n+m≤maxLen:=by unfold maxLen;omega
 cases ad with
 | none=>
  exact Yx94
 | some ad=>
  refine wpList_append_own w hgd s x t ho base e i z size bytes E.ht hi hz hsize hby hzs E.pos v n xs hs hown ad m cap news hx hl ?_ h1 h63' hbytes hbase (fun v' w' h2 h3 _=>h v' w' h2 h3)
  intro j u hu
  rcases hr with hr|⟨b,off,c,fr,hab,hb,hc⟩
  ·subst hr;simp at hu
  ·cases hab
   have hj:j<news.length:=(List.getElem?_eq_some_iff.1 hu).1
   have:=hc j hj
   have hadd:(⟨b,off,none⟩:Addr).add j=⟨b,off+j,none⟩:=by unfold Addr.add;split <;> simp_all
   rw [hadd]
   simp only [World.cell?,hb]
   simpa [hu] using this
theorem wpList_appR {ops:Array Oper} {rest:List Oper} {o:Oper} {a:Act} {w:World} {Q:Exit→Act→World→Prop} (hgd:o.guard=none) (s x:Operand) (t:TypeId)
  (ho:o.op = .call {callee:= .builtin .append,args:=#[s,x],argTypes:=#[t,t]})
  (base:Nat) {e:TypeId} {size bytes:Nat} (E:Elem P t e size bytes)
  (v:Value) (n:Nat) (xs:List Value) (hs:a.eval s=v) (hown:w.ownsRow base e size v n xs)
  (vx:Value) (m:Nat) (news:List Value) (hx:a.eval x=vx) (hrow:RRow w vx m news) (hl:news.length=m*size) (h1:∀ u∈news,u.oneCell'=true)
  (hbytes:(n+m)*bytes≤140737488355328) (h63:n+m≤9223372036854775807) (hbase:base≤w.heap.size)
  (h:∀ v' w',Hid (w'.ownsRow base e size v' (n+m) (xs++news))→Hid (w.grownBy w' v.ownBlock)→wpList P ops Q rest (a.put o.dst v') w'):wpList P ops Q (o :: rest) a w:=by
 obtain ⟨z,hinfo,hzs⟩:=E.info
 obtain ⟨i,hi,hz,hsize,hby⟩:=info_parts hinfo
 obtain ⟨ad,cap,hv,_,_,h0,hr⟩:=hrow
 subst hv
 have h63':n+m≤maxLen:=by unfold maxLen;omega
 cases ad with
 | none=>
  exact Yx94
 | some ad=>
  refine wpList_append_own w hgd s x t ho base e i z size bytes E.ht hi hz hsize hby hzs E.pos v n xs hs hown ad m cap news hx hl ?_ h1 h63' hbytes hbase (fun v' w' h2 h3 _=>h v' w' h2 h3)
  intro j u hu
  rcases hr with hr|⟨b,off,hab,hlt,hc⟩
  ·subst hr;simp at hu
  ·cases hab
   have hj:j<news.length:=(List.getElem?_eq_some_iff.1 hu).1
   have:=hc j hj
   have hadd:(⟨b,off,none⟩:Addr).add j=⟨b,off+j,none⟩:=by unfold Addr.add;split <;> simp_all
   rw [hadd,this]
   exact hu
end
end Go.Proofs.Heap
namespace Go.Proofs.Heap
open Go Go.RowKit
section
variable {P:Program}
theorem Elem.sizeRun {t e:TypeId} {size bytes:Nat} (E:Elem P t e size bytes) (w:World):(sizeOf (P.elem t)).run P w = .ok size w:=by
 obtain ⟨z,hinfo,_⟩:=E.info
 obtain ⟨i,hi,_,hsize,_⟩:=info_parts hinfo
 have he:P.elem t=e:=by simp [Program.elem,E.ht]
 rw [he]
 simp [sizeOf,typeInfo,hi,hsize]
theorem Elem.under {t e:TypeId} {size bytes:Nat} (E:Elem P t e size bytes):P.underlying t=some (.slice (P.elem t)):=by
 have he:P.elem t=e:=by simp [Program.elem,E.ht]
 rw [he];exact E.ht
theorem slice_to {t e:TypeId} {size bytes:Nat} (E:Elem P t e size bytes) (a:Option Addr) (n cap k:Nat) (hk:k≤cap) :
  ∃ a',(∀ w,(Instr.slice t (.slice a n cap) none (some (.int .i64 (k:Int))) none).run P w = .ok (.slice a' k cap) w) ∧
   (∀ w xs,k≤n→xs.length=n*size→Row w e (.slice a n cap) n xs→Row w e (.slice a' k cap) k (xs.take (k*size))) ∧
   (∀ w xs,k≤n→xs.length=n*size→RRow w (.slice a n cap) n xs→RRow w (.slice a' k cap) k (xs.take (k*size))):=by
 have hadd:∀ (b off:Nat),(⟨b,off,none⟩:Addr).add (0*size)=⟨b,off,none⟩:=fun b off=>by simp [Addr.add]
 have ha:∀ b off:Nat,a=some ⟨b,off,none⟩→(if cap=0 then a else a.map (·.add (0*size)))=some ⟨b,off,none⟩:=fun b off h=>by
  subst h
  split
  ·rfl
  ·simp [Addr.add]
 refine ⟨if cap=0 then a else a.map (·.add (0*size)),fun w=>?_,?_,?_⟩
 ·rw [run_slice_h w t a n cap E.under .i64 (k:Int) (by omega) (by omega),E.sizeRun]
  simp [Result.andThen,sliced]
 ·rintro w xs hkn hl ⟨a2,cap2,hv,h1,h2,h0,h3⟩
  cases hv
  refine ⟨_,cap,rfl,hk,h2,?_,?_⟩
  ·intro h
   have:a=none:=by
    split at h
    ·exact h
    ·simpa using h
   have:=h0 this
   omega
  ·rcases h3 with h3|⟨b,off,c,fr,hab,hb,hc⟩
   ·subst h3;simp
   ·refine Or.inr ⟨b,off,c,fr,ha b off hab,hb,fun j hj=>?_⟩
    rw [List.length_take] at hj
    rw [hc j (by omega),List.getElem?_take_of_lt (by omega)]
 ·rintro w xs hkn hl ⟨a2,cap2,hv,h1,h2,h0,h3⟩
  cases hv
  refine ⟨_,cap,rfl,hk,h2,?_,?_⟩
  ·intro h
   have:a=none:=by
    split at h
    ·exact h
    ·simpa using h
   have:=h0 this
   omega
  ·rcases h3 with h3|⟨b,off,hab,hb,hc⟩
   ·subst h3;simp
   ·refine Or.inr ⟨b,off,ha b off hab,hb,fun j hj=>?_⟩
    rw [List.length_take] at hj
    rw [hc j (by omega),List.getElem?_take_of_lt (by omega)]
theorem slice_from {t e:TypeId} {size bytes:Nat} (E:Elem P t e size bytes) (a:Option Addr) (n cap k:Nat) (hk:k≤n) (hn:n≤cap) :
  ∃ a',(∀ w,(Instr.slice t (.slice a n cap) (some (.int .i64 (k:Int))) none none).run P w = .ok (.slice a' (n-k) (cap-k)) w) ∧
   (∀ w xs,xs.length=n*size→Row w e (.slice a n cap) n xs→Row w e (.slice a' (n-k) (cap-k)) (n-k) (xs.drop (k*size))) ∧
   (∀ w xs,xs.length=n*size→RRow w (.slice a n cap) n xs→RRow w (.slice a' (n-k) (cap-k)) (n-k) (xs.drop (k*size))):=by
 have hadd:∀ (b off d:Nat),(⟨b,off,none⟩:Addr).add d=⟨b,off+d,none⟩:=fun b off d=>by unfold Addr.add;split <;> simp_all
 refine ⟨if cap=k then a else a.map (·.add (k*size)),fun w=>?_,?_,?_⟩
 ·rw [run_slice_l w t a n cap E.under .i64 (k:Int) (by omega) (by omega),E.sizeRun]
  simp [Result.andThen,sliced]
 ·rintro w xs hl ⟨a2,cap2,hv,h1,h2,h0,h3⟩
  cases hv
  refine ⟨_,cap-k,rfl,by omega,by unfold maxLen at *;omega,?_,?_⟩
  ·intro h
   have:a=none:=by
    split at h
    ·exact h
    ·simpa using h
   have:=h0 this
   omega
  ·rcases h3 with h3|⟨b,off,c,fr,hab,hb,hc⟩
   ·subst h3;simp
   ·by_cases hck:cap=k
    ·obtain rfl:n=k:=by omega
     left;rw [←hl];simp
    ·refine Or.inr ⟨b,off+k*size,c,fr,by rw [if_neg hck,hab];simp [hadd],hb,fun j hj=>?_⟩
     rw [List.length_drop] at hj
     rw [Nat.add_assoc,hc _ (by omega),List.getElem?_drop]
 ·rintro w xs hl ⟨a2,cap2,hv,h1,h2,h0,h3⟩
  cases hv
  refine ⟨_,cap-k,rfl,by omega,by unfold maxLen at *;omega,?_,?_⟩
  ·intro h
   have:a=none:=by
    split at h
    ·exact h
    ·simpa using h
   have:=h0 this
   omega
  ·rcases h3 with h3|⟨b,off,hab,hb,hc⟩
   ·subst h3;simp
   ·by_cases hck:cap=k
    ·obtain rfl:n=k:=by omega
     left;rw [←hl];simp
    ·refine Or.inr ⟨b,off+k*size,by rw [if_neg hck,hab];simp [hadd],hb,fun j hj=>?_⟩
     rw [List.length_drop] at hj
     rw [Nat.add_assoc,hc _ (by omega),List.getElem?_drop]
end
end Go.Proofs.Heap
namespace Go.Proofs.Heap
open Go Go.RowKit
section
variable {P:Program}
theorem slice_mid {t e:TypeId} {size bytes:Nat} (E:Elem P t e size bytes) (a:Option Addr) (n cap l h:Nat) (hl:l≤h) (hh:h≤n) (hn:n≤cap) :
  ∃ a',(∀ w,(Instr.slice t (.slice a n cap) (some (.int .i64 (l:Int))) (some (.int .i64 (h:Int))) none).run P w = .ok (.slice a' (h-l) (cap-l)) w) ∧
   (∀ w xs,xs.length=n*size→RRow w (.slice a n cap) n xs→RRow w (.slice a' (h-l) (cap-l)) (h-l) ((xs.drop (l*size)).take ((h-l)*size))):=by
 have hadd:∀ (b off d:Nat),(⟨b,off,none⟩:Addr).add d=⟨b,off+d,none⟩:=fun b off d=>by unfold Addr.add;split <;> simp_all
 refine ⟨if cap=l then a else a.map (·.add (l*size)),fun w=>?_,?_⟩
 ·rw [run_slice_lh w t a n cap E.under .i64 .i64 (l:Int) (h:Int) (by omega) (by omega) (by omega),E.sizeRun]
  simp [Result.andThen,sliced]
 ·rintro w xs hxl ⟨a2,cap2,hv,h1,h2,h0,h3⟩
  cases hv
  refine ⟨_,cap-l,rfl,by omega,by unfold maxLen at *;omega,?_,?_⟩
  ·intro hnone
   have:a=none:=by
    split at hnone
    ·exact hnone
    ·simpa using hnone
   have:=h0 this
   omega
  ·rcases h3 with h3|⟨b,off,hab,hb,hc⟩
   ·subst h3;simp
   ·by_cases hck:cap=l
    ·left
     have:h-l=0:=by omega
     rw [this];simp
    ·refine Or.inr ⟨b,off+l*size,by rw [if_neg hck,hab];simp [hadd],hb,fun j hj=>?_⟩
     rw [List.length_take,List.length_drop] at hj
     rw [Nat.add_assoc,hc _ (by omega),List.getElem?_take_of_lt (by omega),List.getElem?_drop]
end
end Go.Proofs.Heap
set_option linter.unusedSimpArgs false
namespace Go.Proofs.By
open Go.RowKit Go.Proofs.Heap
theorem ret_bool {a b:Bool} (h:a=b):Ending.returned (.bool a) = .returned (.bool b):=by rw [h]
theorem elemU8:Elem Tryz.prog 30 5 1 1:=⟨Tryz.underlying30,⟨.int .u8 0,by kernel_rfl,rfl⟩,by decide⟩
abbrev BRow (w:World) (v:Value) (l:List UInt8):Prop:=RRow w v l.length (bys l)
theorem b_open {w:World} {v:Value} {l:List UInt8} (h:BRow w v l) (hl:0<l.length):∃ g off cap,v = .slice (some ⟨g,off,none⟩) l.length cap∧l.length≤cap∧cap≤maxLen ∧
  ∀ (j:Nat) (hj:j<l.length),w.cell? ⟨g,off+j,none⟩=some (.int .u8 (l[j].toNat:Int)):=by
 obtain ⟨g,off,cap,h1,h2,h3,_,h5⟩:=h.open (by rw [bys_length];exact hl)
 refine ⟨g,off,cap,h1,h2,h3,fun j hj=>?_⟩
 rw [h5 j (by rw [bys_length];exact hj)]
 simp [bys,hj]
theorem within_any (a:Option Addr) (n c:Nat) (p q:Int) (w:World) (hn:n≤9223372036854775807) :
  Calls Tryz.prog 176 #[.slice a n c,.int .i64 p,.int .i64 q] w fun e w'=>e = .returned (.bool (within n p q))∧w=w':=by
 have HW:Hid (within n p q=(decide (1≤q) && decide (q≤8) && decide (0≤p) && decide (p≤(n:Int)-q))):=rfl
 generalize within n p q=x at *
 by_cases h1:1≤q
 ·by_cases h2:q≤8
  ·by_cases h3:0≤p
   ·have HF:Hid (x=decide (p≤(n:Int)-q)):=by show _=_;rw [HW.out,decide_eq_true h1,decide_eq_true h2,decide_eq_true h3];simp
    have d1:decide (1≤q)=true:=decide_eq_true h1
    have d2:decide (q≤8)=true:=decide_eq_true h2
    have d3:decide (0≤p)=true:=decide_eq_true h3
    exact Yx88
   ·have HF:Hid (x=false):=by show _=_;rw [HW.out,decide_eq_false h3];simp
    have d1:decide (1≤q)=true:=decide_eq_true h1
    have d2:decide (q≤8)=true:=decide_eq_true h2
    have d3:decide (0≤p)=false:=decide_eq_false h3
    exact Yx88
  ·have HF:Hid (x=false):=by show _=_;rw [HW.out,decide_eq_false h2];simp
   have d1:decide (1≤q)=true:=decide_eq_true h1
   have d2:decide (q≤8)=false:=decide_eq_false h2
   exact Yx88
 ·have HF:Hid (x=false):=by show _=_;rw [HW.out,decide_eq_false h1];simp
  have d1:decide (1≤q)=false:=decide_eq_false h1
  exact Yx88
set_option maxHeartbeats 1000000 in
theorem Get_any (v:Value) (b:List UInt8) (p q:Int) (w:World) (hv:BRow w v b) :
  Calls Tryz.prog 155 #[v,.int .i64 p,.int .i64 q] w fun e w'=>e = .returned (.tuple #[.int .u64 (get b p q:Nat),.bool (within b.length p q)])∧w=w':=by
 have hlen:=hv.len
 obtain ⟨a,c,rfl,hc,-⟩:=id hv
 have CW:=Lib.hid (within_any a b.length c p q w hlen)
 cases hw:within b.length p q
 ·have HG:Hid (get b p q=0):=by show _=_;unfold get;rw [hw];rfl
  rw [hw] at CW
  rw [HG.out]
  clear hw HG
  go_enter Tryz.func155,Tryz.ntmps155
  go_wp2_with (go_at_call 176;refine CW.out.mono ?_;rintro e w' ⟨rfl,rfl⟩)
  go_ret2
  exact ⟨rfl,rfl⟩
 ·obtain ⟨h1,h2,h3,h4⟩:=within_iff.1 hw
  have HG:Hid (get b p q=be ((b.drop p.toNat).take q.toNat)):=by show _=_;unfold get;rw [hw];rfl
  rw [hw] at CW
  obtain ⟨p,rfl⟩:=Int.eq_ofNat_of_zero_le h3
  obtain ⟨q,rfl⟩:=Int.eq_ofNat_of_zero_le (show 0≤q by omega)
  rw [Int.toNat_natCast,Int.toNat_natCast] at HG
  obtain ⟨a',hsl,hrow⟩:=slice_mid elemU8 a b.length c p (p+q) (by omega) (by omega) hc
  have hrow:=hrow w (bys b) (by rw [bys_length];omega) hv
  rw [Nat.mul_one,Nat.mul_one,Nat.add_sub_cancel_left,bys_drop,bys_take] at hrow
  rw [Nat.add_sub_cancel_left] at hsl
  have hql:((b.drop p).take q).length=q:=by rw [List.length_take,List.length_drop];omega
  have hpq:((p+q:Nat):Int)=(p:Int)+(q:Int):=by omega
  rw [hpq] at hsl
  rw [HG.out]
  have HROW:=Lib.hid hrow
  clear hw HG hrow hv hpq
  generalize (b.drop p).take q=s at *
  subst hql
  go_enter Tryz.func155,Tryz.ntmps155
  go_wp2_with (go_at_call 176;refine CW.out.mono ?_;rintro e w' ⟨rfl,rfl⟩)
  exact Yx44
end Go.Proofs.By
namespace Go.Proofs.By
def at8 (b:List UInt8) (i:Nat):Nat:=(b.getD i 0).toNat
structure Pkt where
 marker:Bool
 type:Int
 seq:Int
 time:Int
 ssrc:Int
 csrc:List Int
 hasExt:Bool
 profile:Int
 ext:List UInt8
 payload:List UInt8
 pad:Int
def noPkt:Pkt:=⟨false,0,0,0,0,[],false,0,[],[],0⟩
def extn (b:List UInt8) (p:Nat):(Nat × Nat) × Bool:=
 if at8 b 0 / 16 % 2=0 then ((p,p),decide (p≤b.length))
 else ((p+4,p+4+4*get b ((p:Int)+2) 2),within b.length ((p:Int)+2) 2 && decide (p+4+4*get b ((p:Int)+2) 2≤b.length))
def padd (b rest:List UInt8):Nat × Bool:=
 if at8 b 0 / 32 % 2=0 then (0,true)
 else if rest.length=0 then (0,false)
 else
  let n:=at8 rest (rest.length-1)
  if n=0∨rest.length<n then (0,false)
  else if ((rest.drop (rest.length-n)).take (n-1)).all (fun x=>decide (x=0)) then (n,true) else (0,false)
def looks (b:List UInt8):(Nat × Nat × Nat) × Int:=
 if 512<b.length then ((0,0,0),5)
 else if b.length<12 then ((0,0,0),2)
 else if at8 b 0 / 64≠2 then ((0,0,0),1)
 else if 192≤at8 b 1∧at8 b 1≤223 then ((0,0,0),4)
 else
  let x:=extn b (12+4*(at8 b 0 % 16))
  if x.2=false then ((0,0,0),2)
  else
   let y:=padd b (b.drop x.1.2)
   if y.2=false then ((0,0,0),1) else ((x.1.1,x.1.2,b.length-y.1),0)
def packet (b:List UInt8) (s:Nat × Nat × Nat):Pkt where
 marker:=decide (128≤at8 b 1)
 type:=(at8 b 1 % 128:Nat)
 seq:=get b 2 2
 time:=get b 4 4
 ssrc:=get b 8 4
 csrc:=(List.range (at8 b 0 % 16)).map fun (i:Nat)=>((get b (12+4*(i:Int)) 4:Nat):Int)
 hasExt:=decide (at8 b 0 / 16 % 2=1)
 profile:=if at8 b 0 / 16 % 2=1 then (get b ((s.1:Int)-4) 2:Int) else 0
 ext:=if at8 b 0 / 16 % 2=1 then (b.drop s.1).take (s.2.1-s.1) else []
 payload:=(b.drop s.2.1).take (s.2.2-s.2.1)
 pad:=(b.length:Int)-s.2.2
def rtpGet (b:List UInt8):Pkt × Int:=if (looks b).2≠0 then (noPkt,(looks b).2) else (packet b (looks b).1,0)
structure Dsc where
 layer:Int
 key:Bool
 start:Bool
 frame:Int
def noDsc:Dsc:=⟨0,false,false,0⟩
def descGet (b:List UInt8):Dsc × Int:=
 if b.length<4 then (noDsc,2)
 else if at8 b 0 / 4 % 16≠0∨at8 b 0 % 4=3∨at8 b 1≠90 then (noDsc,1)
 else (⟨(at8 b 0 % 4:Nat),decide (128≤at8 b 0),decide (at8 b 0 / 64 % 2=1),get b 2 2⟩,0)
end Go.Proofs.By
set_option linter.unusedSimpArgs false
namespace Go.Proofs.By
open Go.RowKit Go.Proofs.Heap
theorem at8_lt {b:List UInt8} {i:Nat} (h:i<b.length):at8 b i=b[i].toNat:=by
 unfold at8
 rw [List.getD_eq_getElem?_getD,List.getElem?_eq_getElem h];rfl
theorem at8_256 (b:List UInt8) (i:Nat):at8 b i<256:=by unfold at8;exact (b.getD i 0).toNat_lt
theorem b_at {w:World} {v:Value} {l:List UInt8} (h:BRow w v l) (hl:0<l.length):∃ g off cap,v = .slice (some ⟨g,off,none⟩) l.length cap∧l.length≤cap∧cap≤maxLen ∧
  ∀ (j:Nat) (_:j<l.length),w.cell? ⟨g,off+j,none⟩=some (.int .u8 (at8 l j:Int)):=by
 obtain ⟨g,off,cap,h1,h2,h3,h4⟩:=b_open h hl
 exact ⟨g,off,cap,h1,h2,h3,fun j hj=>by rw [h4 j hj,at8_lt hj]⟩
theorem and_bit (k n:Nat) (hn:n<256) (hk:2 ^ k<256):bits .and .u8 (n:Int) ((2 ^ k:Nat):Int)=((n / 2 ^ k % 2*2 ^ k:Nat):Int):=by
 rw [u8_and_nat n (2 ^ k) hn hk,nat_bit]
theorem and_16 (n:Nat) (hn:n<256):bits .and .u8 (n:Int) 16=((n / 16 % 2*16:Nat):Int):=and_bit 4 n hn (by decide)
theorem and_32 (n:Nat) (hn:n<256):bits .and .u8 (n:Int) 32=((n / 32 % 2*32:Nat):Int):=and_bit 5 n hn (by decide)
theorem and_64 (n:Nat) (hn:n<256):bits .and .u8 (n:Int) 64=((n / 64 % 2*64:Nat):Int):=and_bit 6 n hn (by decide)
theorem and_128 (n:Nat) (hn:n<256):bits .and .u8 (n:Int) 128=((n / 128 % 2*128:Nat):Int):=and_bit 7 n hn (by decide)
theorem and_15 (n:Nat) (hn:n<256):bits .and .u8 (n:Int) 15=((n % 16:Nat):Int):=by
 rw [show (15:Int)=((15:Nat):Int) from rfl,u8_and_nat n 15 hn (by decide),nat_mask4]
theorem and_31 (n:Nat) (hn:n<256):bits .and .u8 (n:Int) 31=((n % 32:Nat):Int):=by
 rw [show (31:Int)=((31:Nat):Int) from rfl,u8_and_nat n 31 hn (by decide),nat_mask5]
theorem and_127 (n:Nat) (hn:n<256):bits .and .u8 (n:Int) 127=((n % 128:Nat):Int):=by
 rw [show (127:Int)=((127:Nat):Int) from rfl,u8_and_nat n 127 hn (by decide),nat_mask7]
theorem and_3 (n:Nat) (hn:n<256):bits .and .u8 (n:Int) 3=((n % 4:Nat):Int):=by
 rw [show (3:Int)=((3:Nat):Int) from rfl,u8_and_nat n 3 hn (by decide),nat_mask2]
theorem get_lt (b:List UInt8) (p q:Int) (k:Nat) (hk:q.toNat≤k):get b p q<256 ^ k:=by
 unfold get
 split
 ·refine Nat.lt_of_lt_of_le (be_lt _) (Nat.pow_le_pow_right (by decide) ?_)
  rw [List.length_take];omega
 ·exact Nat.pow_pos (by decide)
theorem feedback_any (n:Nat) (w:World) (hn:n<256) :
  Calls Tryz.prog 173 #[.int .u8 (n:Int)] w fun e w'=>e = .returned (.bool (decide (192≤n∧n≤223)))∧w=w':=by
 by_cases h1:192≤n
 ·have HF:Hid (decide (192≤n∧n≤223)=decide ((n:Int)≤223)):=decide_eq_decide.2 (by omega)
  have d1:decide ((192:Int)≤(n:Int))=true:=decide_eq_true (by omega)
  rw [HF.out]
  clear HF
  go_enter Tryz.func173,Tryz.ntmps173
  go_wp2
  go_ret
  exact ⟨rfl,rfl⟩
 ·have HF:Hid (decide (192≤n∧n≤223)=false):=decide_eq_false (by omega)
  have d1:decide ((192:Int)≤(n:Int))=false:=decide_eq_false (by omega)
  rw [HF.out]
  clear HF
  go_enter Tryz.func173,Tryz.ntmps173
  go_wp2
  go_ret
  exact ⟨rfl,rfl⟩
theorem number_any (v:Value) (b:List UInt8) (p q:Int) (w:World) (hv:BRow w v b) :
  Calls Tryz.prog 153 #[v,.int .i64 p,.int .i64 q] w fun e w'=>e = .returned (.int .u64 (get b p q:Nat))∧w=w':=by
 have CG:=Lib.hid (Get_any v b p q w hv)
 clear hv
 go_enter Tryz.func153,Tryz.ntmps153
 go_wp2_with (go_at_call 155;refine CG.out.mono ?_;rintro e w' ⟨rfl,rfl⟩)
 go_ret
 exact ⟨rfl,rfl⟩
theorem extension_any (v:Value) (b:List UInt8) (p:Nat) (w:World) (hv:BRow w v b) (hb:0<b.length) (hp:p≤1000) :
  Calls Tryz.prog 174 #[v,.int .i64 p] w fun e w'=>e = .returned (.tuple #[.int .i64 ((extn b p).1.1:Nat),.int .i64 ((extn b p).1.2:Nat),.bool (extn b p).2])∧w=w':=by
 have hlen:=hv.len
 have CG:=Lib.hid (Get_any v b ((p:Int)+2) 2 w hv)
 obtain ⟨g,off,cap,rfl,_,_,hc⟩:=b_at hv hb
 have d0:=hc 0 hb
 have d0':w.cell? ⟨g,off,none⟩=some (.int .u8 (at8 b 0:Int)):=d0
 have hx:=at8_256 b 0
 have ha:=and_16 (at8 b 0) hx
 have HE:Hid (extn b p=if at8 b 0 / 16 % 2=0 then ((p,p),decide (p≤b.length)) else ((p+4,p+4+4*get b ((p:Int)+2) 2),within b.length ((p:Int)+2) 2 && decide (p+4+4*get b ((p:Int)+2) 2≤b.length))):=rfl
 have hn:=get_lt b ((p:Int)+2) 2 2 (by decide)
 have hn:get b ((p:Int)+2) 2<65536:=hn
 generalize extn b p=X at *
 generalize get b ((p:Int)+2) 2=n at *
 clear hc hv
 by_cases h0:at8 b 0 / 16 % 2=0
 ·have HF:Hid (X=((p,p),decide (p≤b.length))):=by show _=_;rw [HE.out,if_pos h0]
  rw [h0] at ha
  rw [HF.out]
  dsimp only at ha ⊢
  clear HE HF h0 CG
  generalize at8 b 0=x at *
  go_enter Tryz.func174,Tryz.ntmps174
  go_wp2
  go_ret3
  exact ⟨rfl,rfl⟩
 ·have h1:at8 b 0 / 16 % 2=1:=by omega
  have HF:Hid (X=((p+4,p+4+4*n),within b.length ((p:Int)+2) 2 && decide ((p:Int)+4+4*(n:Int)≤(b.length:Int)))):=by
   show _=_;rw [HE.out,if_neg h0];congr 2;exact decide_eq_decide.2 (by omega)
  rw [h1] at ha
  rw [HF.out]
  dsimp only at ha ⊢
  clear HE HF h0 h1
  generalize at8 b 0=x at *
  cases hw:within b.length ((p:Int)+2) 2
  all_goals
   rw [hw] at CG
   clear hw
   go_enter Tryz.func174,Tryz.ntmps174
   go_wp2_with (go_at_call 155;refine CG.out.mono ?_;rintro e w' ⟨rfl,rfl⟩)
   go_ret3
   exact ⟨rfl,rfl⟩
theorem padding_any (v u:Value) (b r:List UInt8) (w:World) (hv:BRow w v b) (hu:BRow w u r) (hb:0<b.length) :
  Calls Tryz.prog 175 #[v,u] w fun e w'=>e = .returned (.tuple #[.int .i64 ((padd b r).1:Nat),.bool (padd b r).2])∧w=w':=by
 have hlen:=hv.len
 have hlen2:=hu.len
 obtain ⟨g,off,cap,rfl,_,_,hc⟩:=b_at hv hb
 have d0:w.cell? ⟨g,off,none⟩=some (.int .u8 (at8 b 0:Int)):=hc 0 hb
 have hx:=at8_256 b 0
 have ha:=and_32 (at8 b 0) hx
 have HE:Hid (padd b r=if at8 b 0 / 32 % 2=0 then (0,true) else if r.length=0 then (0,false) else if at8 r (r.length-1)=0∨r.length<at8 r (r.length-1) then (0,false) else if ((r.drop (r.length-at8 r (r.length-1))).take (at8 r (r.length-1)-1)).all (fun x=>decide (x=0)) then (at8 r (r.length-1),true) else (0,false)):=rfl
 obtain ⟨ua,uc,rfl,huc,-⟩:=id hu
 have HU:=Lib.hid hu
 clear hc hv hu
 generalize padd b r=X at *
 by_cases h0:at8 b 0 / 32 % 2=0
 ·have HF:Hid (X=(0,true)):=by show _=_;rw [HE.out,if_pos h0]
  rw [h0] at ha
  rw [HF.out]
  clear HE HF h0
  generalize at8 b 0=x at *
  go_enter Tryz.func175,Tryz.ntmps175
  go_wp2
  go_ret2
  exact ⟨rfl,rfl⟩
 ·have h1:at8 b 0 / 32 % 2=1:=by omega
  have HE2:Hid (X=if r.length=0 then (0,false) else if at8 r (r.length-1)=0∨r.length<at8 r (r.length-1) then (0,false) else if ((r.drop (r.length-at8 r (r.length-1))).take (at8 r (r.length-1)-1)).all (fun x=>decide (x=0)) then (at8 r (r.length-1),true) else (0,false)):=by show _=_;rw [HE.out,if_neg h0]
  rw [h1] at ha
  clear HE h0 h1
  generalize at8 b 0=x at *
  by_cases hr:r.length=0
  ·have HF:Hid (X=(0,false)):=by show _=_;rw [HE2.out,if_pos hr]
   rw [HF.out]
   rw [hr]
   clear HE2 HF HU
   go_enter Tryz.func175,Tryz.ntmps175
   go_wp2
   go_ret2
   exact ⟨rfl,rfl⟩
  ·obtain ⟨m,hm⟩:∃ m,r.length=m+1:=⟨r.length-1,by omega⟩
   obtain ⟨g2,off2,cap2,e1,_,_,hc2⟩:=b_at HU.out (by omega)
   cases e1
   have dl:=hc2 m (by omega)
   have HE3:Hid (X=if at8 r m=0∨r.length<at8 r m then (0,false) else if ((r.drop (r.length-at8 r m)).take (at8 r m-1)).all (fun x=>decide (x=0)) then (at8 r m,true) else (0,false)):=by
    show _=_;rw [HE2.out,if_neg hr,show r.length-1=m by omega]
   have hk:=at8_256 r m
   have HC:=Lib.hid hc2
   have hrl:((r.length:Nat):Int)=(m:Int)+1:=by omega
   have hw1:IntKind.i64.wrap ((m:Int)+1-1)=(m:Int):=by rw [show (m:Int)+1-1=(m:Int) by omega];exact IntWalk.i64_in _ (by omega)
   clear HE2 hr hc2
   generalize hk':at8 r m=k at *
   by_cases hb1:k=0∨r.length<k
   ·have HF:Hid (X=(0,false)):=by show _=_;rw [HE3.out,if_pos hb1]
    rw [HF.out]
    clear HE3 HF HU
    rcases hb1 with rfl|hb1
    all_goals
     go_enter Tryz.func175,Tryz.ntmps175
     go_wp2
     go_ret2
     exact ⟨rfl,rfl⟩
   ·have hk1:1≤k:=by omega
    have hk2:k≤r.length:=by omega
    have HU2:RRow w (.slice (some ⟨g2,off2,none⟩) (m+1) uc) (m+1) (bys r):=by rw [←hm];exact HU.out
    obtain ⟨a',hsl,hrow⟩:=slice_mid elemU8 (some ⟨g2,off2,none⟩) (m+1) uc (m+1-k) m (by omega) (by omega) (by omega)
    have hrow:=hrow w (bys r) (by rw [bys_length];omega) HU2
    have e1:m-(m+1-k)=k-1:=by omega
    have e2:((m+1-k:Nat):Int)=(m:Int)+1-(k:Int):=by omega
    rw [Nat.mul_one,Nat.mul_one,e1,bys_drop,bys_take] at hrow
    rw [e1,e2] at hsl
    have hql:((r.drop (m+1-k)).take (k-1)).length=k-1:=by rw [List.length_take,List.length_drop];omega
    have HF:Hid (X=if ((r.drop (m+1-k)).take (k-1)).all (fun x=>decide (x=0)) then (k,true) else (0,false)):=by show _=_;rw [HE3.out,if_neg hb1,hm]
    have hkI:(1:Int)≤(k:Int):=by omega
    have hkI2:(k:Int)≤(m:Int)+1:=by omega
    have HROW:=Lib.hid hrow
    have c1:decide ((m:Int)+1<(k:Int))=false:=decide_eq_false (by omega)
    have c0:((k:Int) == 0)=false:=by rw [beq_eq_false_iff_ne];omega
    have hml:m+1≤9223372036854775807:=by omega
    rw [hm]
    clear HE3 hb1 hrow e1 e2 HC HU HU2 hrl hw1 hlen2 huc hk2 hk'
    generalize (r.drop (m+1-k)).take (k-1)=s at *
    rw [←hql] at hsl HROW
    have hkm:k=s.length+1:=by omega
    have HKM:=Lib.hid hkm
    have hsb:s.length≤255:=by omega
    clear hql hkm hm
    go_enter Tryz.func175,Tryz.ntmps175
    go_wp2
    go_loop [42] (fun i=>∃ j:Nat,j≤s.length∧i = .int .i64 j∧Hid ((s.take j).all (fun x=>decide (x=0))=true)) (fun i=>s.length-(intOf i).toNat)
    case atStart=>exact ⟨0,Nat.zero_le _,rfl,rfl⟩
    case round=>
     obtain ⟨j,hj,rfl,hall⟩:=hrel
     by_cases hjs:j<s.length
     ·obtain ⟨g3,off3,cap3,e3,_,_,hc3⟩:=b_open (l:=s) HROW.out (by omega)
      cases e3
      have d:=hc3 j hjs
      have HNX:Hid ((s.take (j+1)).all (fun x=>decide (x=0))=decide (s[j]=0)):=by
       show _=_
       rw [List.take_succ_eq_append_getElem hjs,List.all_append,hall.out]
       simp
      have HALL:Hid (s[j]≠0→s.all (fun x=>decide (x=0))=false):=fun h=>by
       rw [List.all_eq_false]
       exact ⟨s[j],List.getElem_mem hjs,by simpa using h⟩
      clear hc3
      generalize s[j]=x at *
      by_cases hx0:x=0
      ·have HN2:Hid ((s.take (j+1)).all (fun x=>decide (x=0))=true):=by show _=_;rw [HNX.out,hx0];rfl
       have hz:(x.toNat:Int)=0:=by rw [hx0];rfl
       rw [hz] at d
       clear hz hx0 HNX HALL hall HF
       go_wp2
       go_round
       case rel=>exact ⟨j+1,by omega,by go_num,HN2⟩
       case measure=>simp [intOf];omega
      ·have hq:((x.toNat:Int) != 0)=true:=by
        rw [bne_iff_ne]
        intro e
        exact hx0 (UInt8.toNat_inj.1 (by simpa using e))
       have HX:Hid (X=(0,false)):=by show _=_;rw [HF.out,HALL.out hx0];rfl
       clear HF HALL HNX hx0 hall
       go_wp2
       go_ret2
       exact ⟨by rw [HX.out];rfl,rfl⟩
     ·obtain rfl:j=s.length:=by omega
      have HX:Hid (X=(k,true)):=by
       show _=_
       have:=hall.out
       rw [List.take_of_length_le (by omega)] at this
       rw [HF.out,this];rfl
      clear HF hall
      go_wp2
      go_ret2
      exact ⟨by rw [HX.out];rfl,rfl⟩
end Go.Proofs.By
set_option linter.unusedSimpArgs false
namespace Go.Proofs.By
open Go.RowKit Go.Proofs.Heap
theorem extn_le (b:List UInt8) (p:Nat):(extn b p).1.1≤p+4∧(extn b p).1.2≤p+4+4*65535:=by
 have h:=get_lt b ((p:Int)+2) 2 2 (by decide)
 have h:get b ((p:Int)+2) 2<65536:=h
 unfold extn
 split
 ·exact ⟨by show p≤_;omega,by show p≤_;omega⟩
 ·exact ⟨by show p+4≤_;omega,by show p+4+4*get b ((p:Int)+2) 2≤_;omega⟩
theorem extn_ok {b:List UInt8} {p:Nat} (h:(extn b p).2=true):(extn b p).1.2≤b.length∧(extn b p).1.1≤(extn b p).1.2:=by
 unfold extn at h ⊢
 split
 ·rename_i h0
  rw [if_pos h0] at h
  exact ⟨of_decide_eq_true h,Nat.le_refl _⟩
 ·rename_i h0
  rw [if_neg h0,Bool.and_eq_true] at h
  exact ⟨of_decide_eq_true h.2,by show p+4≤p+4+_;omega⟩
theorem padd_le {b r:List UInt8} (h:(padd b r).2=true):(padd b r).1≤r.length:=by
 unfold padd at h ⊢
 by_cases h0:at8 b 0 / 32 % 2=0
 ·rw [if_pos h0];exact Nat.zero_le _
 rw [if_neg h0] at h ⊢
 by_cases h1:r.length=0
 ·rw [if_pos h1] at h;cases h
 rw [if_neg h1] at h ⊢
 dsimp only at h ⊢
 by_cases h2:at8 r (r.length-1)=0∨r.length<at8 r (r.length-1)
 ·rw [if_pos h2] at h;cases h
 rw [if_neg h2] at h ⊢
 split
 ·show at8 r (r.length-1)≤_;omega
 ·exact Nat.zero_le _
set_option maxHeartbeats 2000000 in
theorem look_any (v:Value) (b:List UInt8) (w:World) (hv:BRow w v b) :
  Calls Tryz.prog 152 #[v] w fun e w'=>e = .returned (.tuple #[.agg #[.int .i64 ((looks b).1.1:Nat),.int .i64 ((looks b).1.2.1:Nat),.int .i64 ((looks b).1.2.2:Nat)],.int .i64 (looks b).2])∧Below w.heap.size w w':=by
 have hlen:=hv.len
 have HV:Hid (∀ w',Below w.heap.size w w'→BRow w' v b):=fun w' h=>hv.below h
 have HE:Hid (looks b=if 512<b.length then ((0,0,0),5) else if b.length<12 then ((0,0,0),2) else if at8 b 0 / 64≠2 then ((0,0,0),1) else if 192≤at8 b 1∧at8 b 1≤223 then ((0,0,0),4) else if (extn b (12+4*(at8 b 0 % 16))).2=false then ((0,0,0),2) else if (padd b (b.drop (extn b (12+4*(at8 b 0 % 16))).1.2)).2=false then ((0,0,0),1) else (((extn b (12+4*(at8 b 0 % 16))).1.1,(extn b (12+4*(at8 b 0 % 16))).1.2,b.length-(padd b (b.drop (extn b (12+4*(at8 b 0 % 16))).1.2)).1),0)):=rfl
 obtain ⟨a,c,rfl,hcc,-⟩:=id hv
 clear hv
 generalize looks b=X at *
 by_cases h1:512<b.length
 ·obtain rfl:X=((0,0,0),5):=by rw [HE.out,if_pos h1]
  clear HE HV
  go_enter Tryz.func152,Tryz.ntmps152
  go_wp2
  exact bodyPost_ret (v:= .tuple #[.agg #[.int .i64 0,.int .i64 0,.int .i64 0],.int .i64 5]) (by simp [results,Tryz.results152,go_sem]) rfl ⟨rfl,below_alloc _ _⟩
 by_cases h2:b.length<12
 ·obtain rfl:X=((0,0,0),2):=by rw [HE.out,if_neg h1,if_pos h2]
  clear HE HV
  go_enter Tryz.func152,Tryz.ntmps152
  go_wp2
  exact Yx139
 have hx0:=at8_256 b 0
 have hx1:=at8_256 b 1
 have hba:=below_alloc w (.cells #[.int .i64 0,.int .i64 0,.int .i64 0] 238)
 have HVA:=Lib.hid (HV.out _ hba)
 obtain ⟨g,off,cap,e1,_,_,hc⟩:=b_at (HV.out w (Below.refl _ _)) (by omega)
 cases e1
 obtain ⟨_,_,_,e2,_,_,hca⟩:=b_at HVA.out (by omega)
 cases e2
 have d0:(w.alloc (.cells #[.int .i64 0,.int .i64 0,.int .i64 0] 238)).cell? ⟨g,off,none⟩=some (.int .u8 (at8 b 0:Int)):=hca 0 (by omega)
 have d1:=hca 1 (by omega)
 have HBEL:=Lib.hid hba
 clear hc hca hba
 have l1:decide ((512:Int)<(b.length:Int))=false:=decide_eq_false (by omega)
 have l2:decide ((b.length:Int)<12)=false:=decide_eq_false (by omega)
 by_cases h3:at8 b 0 / 64≠2
 ·obtain rfl:X=((0,0,0),1):=by rw [HE.out,if_neg h1,if_neg h2,if_pos h3]
  have q:(((at8 b 0:Nat):Int) / 64 != 2)=true:=by rw [bne_iff_ne];omega
  clear HE HV h3
  go_enter Tryz.func152,Tryz.ntmps152
  go_wp2
  exact Yx140
 have q3:(((at8 b 0:Nat):Int) / 64 != 2)=false:=by rw [bne_eq_false_iff_eq];omega
 have CF:=feedback_any (at8 b 1) (w.alloc (.cells #[.int .i64 0,.int .i64 0,.int .i64 0] 238)) hx1
 by_cases h4:192≤at8 b 1∧at8 b 1≤223
 ·obtain rfl:X=((0,0,0),4):=by rw [HE.out,if_neg h1,if_neg h2,if_neg h3,if_pos h4]
  rw [decide_eq_true h4] at CF
  have HCF:=Lib.hid CF
  clear HE HV h3 h4 CF
  go_enter Tryz.func152,Tryz.ntmps152
  go_wp2_with (go_at_call 173;refine HCF.out.mono ?_;rintro e w' ⟨rfl,rfl⟩)
  exact bodyPost_ret (v:= .tuple #[.agg #[.int .i64 0,.int .i64 0,.int .i64 0],.int .i64 4]) (by simp [results,Tryz.results152,go_sem]) rfl ⟨rfl,below_alloc _ _⟩
 rw [decide_eq_false h4] at CF
 have HCF:=Lib.hid CF
 have ha:=and_15 (at8 b 0) hx0
 have hk16:at8 b 0 % 16<16:=by omega
 have HE5:Hid (X=if (extn b (12+4*(at8 b 0 % 16))).2=false then ((0,0,0),2) else if (padd b (b.drop (extn b (12+4*(at8 b 0 % 16))).1.2)).2=false then ((0,0,0),1) else (((extn b (12+4*(at8 b 0 % 16))).1.1,(extn b (12+4*(at8 b 0 % 16))).1.2,b.length-(padd b (b.drop (extn b (12+4*(at8 b 0 % 16))).1.2)).1),0)):=by
  show _=_;rw [HE.out,if_neg h1,if_neg h2,if_neg h3,if_neg h4]
 have CE:=extension_any _ b (12+4*(at8 b 0 % 16)) _ HVA.out (by omega) (by omega)
 have hle:=extn_le b (12+4*(at8 b 0 % 16))
 have HOK:Hid ((extn b (12+4*(at8 b 0 % 16))).2=true→(extn b (12+4*(at8 b 0 % 16))).1.2≤b.length∧(extn b (12+4*(at8 b 0 % 16))).1.1≤(extn b (12+4*(at8 b 0 % 16))).1.2):=extn_ok
 rw [show ((12+4*(at8 b 0 % 16):Nat):Int)=12+4*((at8 b 0 % 16:Nat):Int) by omega] at CE
 clear HE h3 h4 CF
 generalize extn b (12+4*(at8 b 0 % 16))=E at *
 generalize at8 b 0 % 16=k at *
 obtain ⟨⟨xe,xf⟩,xo⟩:=E
 dsimp only at *
 have HCE:=Lib.hid CE
 clear CE
 cases xo
 ·obtain rfl:X=((0,0,0),2):=by rw [HE5.out,if_pos rfl]
  clear HE5 HV HOK
  go_enter Tryz.func152,Tryz.ntmps152
  go_wp2_with (first|(go_at_call 173;refine HCF.out.mono ?_;rintro e w' ⟨rfl,rfl⟩)|(go_at_call 174;refine HCE.out.mono ?_;rintro e w' ⟨rfl,rfl⟩))
  exact Yx139
 obtain ⟨hf1,hf2⟩:=HOK.out rfl
 obtain ⟨a',hsl,-,hrow⟩:=slice_from elemU8 (some ⟨g,off,none⟩) b.length c xf hf1 hcc
 have hrow:=hrow _ (bys b) (by rw [bys_length];omega) HVA.out
 rw [Nat.mul_one,bys_drop] at hrow
 have hdl:(b.drop xf).length=b.length-xf:=List.length_drop
 rw [←hdl] at hrow hsl
 have CP:=padding_any _ _ b (b.drop xf) _ HVA.out hrow (by omega)
 have HPL:Hid ((padd b (b.drop xf)).2=true→(padd b (b.drop xf)).1≤(b.drop xf).length):=padd_le
 have HE6:Hid (X=if (padd b (b.drop xf)).2=false then ((0,0,0),1) else ((xe,xf,b.length-(padd b (b.drop xf)).1),0)):=by show _=_;rw [HE5.out,if_neg (by decide)]
 have HCP:=Lib.hid CP
 have hdl2:(b.drop xf).length≤b.length:=by omega
 clear HE5 HOK hrow CP hdl
 generalize padd b (b.drop xf)=Y at *
 generalize (b.drop xf).length=dl at *
 obtain ⟨yn,yo⟩:=Y
 dsimp only at *
 cases yo
 ·obtain rfl:X=((0,0,0),1):=by rw [HE6.out,if_pos rfl]
  clear HE6 HV HPL
  go_enter Tryz.func152,Tryz.ntmps152
  go_wp2_with (first|(go_at_call 173;refine HCF.out.mono ?_;rintro e w' ⟨rfl,rfl⟩)|(go_at_call 174;refine HCE.out.mono ?_;rintro e w' ⟨rfl,rfl⟩)|(go_at_call 175;refine HCP.out.mono ?_;rintro e w' ⟨rfl,rfl⟩))
  exact Yx140
 have hyl:=HPL.out rfl
 obtain rfl:X=((xe,xf,b.length-yn),0):=by rw [HE6.out,if_neg (by decide)]
 dsimp only
 rw [show ((b.length-yn:Nat):Int)=(b.length:Int)-(yn:Int) by omega]
 have hyn:(yn:Int)≤(b.length:Int):=by omega
 clear HE6 HV HPL
 go_enter Tryz.func152,Tryz.ntmps152
 go_wp2_with (first|(go_at_call 173;refine HCF.out.mono ?_;rintro e w' ⟨rfl,rfl⟩)|(go_at_call 174;refine HCE.out.mono ?_;rintro e w' ⟨rfl,rfl⟩)|(go_at_call 175;refine HCP.out.mono ?_;rintro e w' ⟨rfl,rfl⟩))
 exact bodyPost_ret (v:= .tuple #[.agg #[.int .i64 xe,.int .i64 xf,.int .i64 ((b.length:Int)-(yn:Int))],.int .i64 0]) (by simp [results,Tryz.results152,go_sem]) rfl ⟨rfl,below_alloc _ _⟩
end Go.Proofs.By
namespace Go.Proofs.By
structure Blk where
 ssrc:Int
 lost:Int
 total:Int
 high:Int
 jitter:Int
 last:Int
 delay:Int
structure Itm where
 kind:Int
 ssrc:Int
 ntp:Int
 time:Int
 packets:Int
 octets:Int
 blocks:List Blk
 gone:List Int
 media:Int
 pairs:List (Int × Int)
def noItm:Itm:=⟨0,0,0,0,0,0,[],[],0,[]⟩
def blkAt (b:List UInt8) (p:Nat):Blk:=⟨get b p 4,get b (p+4:Nat) 1,get b (p+5:Nat) 3,get b (p+8:Nat) 4,get b (p+12:Nat) 4,get b (p+16:Nat) 4,get b (p+20:Nat) 4⟩
def rsize (k n:Nat):Nat:=8+24*n+if k=200 then 20 else 0
def right (b:List UInt8):Nat × Int:=
 if b.length<4 then (0,2)
 else if at8 b 0 / 32≠4 then (0,1)
 else if at8 b 1≠200∧at8 b 1≠201 then (0,4)
 else if 15<at8 b 0 % 32∨(get b 2 2+1)*4≠rsize (at8 b 1) (at8 b 0 % 32) then (0,1)
 else if b.length<rsize (at8 b 1) (at8 b 0 % 32) then (0,2)
 else (rsize (at8 b 1) (at8 b 0 % 32),0)
def report (b:List UInt8):Itm where
 kind:=at8 b 1
 ssrc:=get b 4 4
 ntp:=if at8 b 1=200 then (get b 8 8:Int) else 0
 time:=if at8 b 1=200 then (get b 16 4:Int) else 0
 packets:=if at8 b 1=200 then (get b 20 4:Int) else 0
 octets:=if at8 b 1=200 then (get b 24 4:Int) else 0
 blocks:=(List.range (at8 b 0 % 32)).map fun (i:Nat)=>blkAt b ((if at8 b 1=200 then 28 else 8)+24*i)
 gone:=[]
 media:=0
 pairs:=[]
def reportGet (b:List UInt8):(Itm × Nat) × Int:=if (right b).2≠0 then ((noItm,0),(right b).2) else ((report b,(right b).1),0)
def ikind (b:List UInt8):Nat × Bool:=
 if at8 b 1=200∨at8 b 1=201∨at8 b 1=203 then (at8 b 1,true)
 else if at8 b 1=205∨at8 b 1=206 then (at8 b 1,decide (at8 b 0 % 32=1)) else (0,false)
def ilength (b:List UInt8) (k:Nat):Nat × Bool:=
 let n:=(get b 2 2+1)*4
 if k=203 then (n,decide (1≤at8 b 0 % 32) && decide (at8 b 0 % 32≤15) && decide (n=4+4*(at8 b 0 % 32)))
 else if k=205 then (n,decide (16≤n) && decide (n≤76)) else (n,decide (n=12))
def iwords (b:List UInt8) (p:Nat):List Nat:=(List.range ((b.length-p) / 4)).map fun (i:Nat)=>get b (p+4*i:Nat) 4
def parts (b:List UInt8) (k:Nat):Itm:=
 if k=203 then {noItm with kind:=203,gone:=(iwords b 4).map fun (n:Nat)=>(n:Int)}
 else {noItm with kind:=k,ssrc:=get b 4 4,media:=get b 8 4,pairs:=(iwords b 12).map fun (n:Nat)=>(((n / 65536:Nat):Int),((n % 65536:Nat):Int))}
def itemGet (b:List UInt8):(Itm × Nat) × Int:=
 if b.length<4 then ((noItm,0),2)
 else if at8 b 0 / 32≠4 then ((noItm,0),1)
 else if (ikind b).2=false then ((noItm,0),4)
 else if (ikind b).1=200∨(ikind b).1=201 then reportGet b
 else
  let n:=ilength b (ikind b).1
  if n.2=false then ((noItm,0),1)
  else if b.length<n.1 then ((noItm,0),2)
  else ((parts (b.take n.1) (ikind b).1,n.1),0)
def itemsGo:Nat→List UInt8→List Itm × Int
 | 0,_=>([],3)
 | k+1,b=>
  if (itemGet b).2≠0 then ([],(itemGet b).2)
  else if b.length-(itemGet b).1.2=0 then ([(itemGet b).1.1],0)
  else
   let r:=itemsGo k (b.drop (itemGet b).1.2)
   if r.2≠0 then ([],r.2) else ((itemGet b).1.1 :: r.1,0)
def itemsGet (b:List UInt8):List Itm × Int:=if 512<b.length then ([],5) else itemsGo 8 b
inductive Ev
 | none
 | media (p:Pkt) (d:Dsc)
 | feedback (l:List Itm)
def sift (b:List UInt8):Ev × Int:=
 if 512<b.length then (.none,5)
 else if b.length<2 then (.none,2)
 else if 192≤at8 b 1∧at8 b 1≤223 then (if (itemsGet b).2≠0 then (.none,(itemsGet b).2) else (.feedback (itemsGet b).1,0))
 else if (rtpGet b).2≠0 then (.none,(rtpGet b).2)
 else if (descGet (rtpGet b).1.payload).2≠0 then (.none,(descGet (rtpGet b).1.payload).2)
 else (.media (rtpGet b).1 (descGet (rtpGet b).1.payload).1,0)
end Go.Proofs.By
