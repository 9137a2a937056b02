/- Part of a proof. -/
import Derived.Test.YtpdjhlcbcomdkaaGreatDoorChecked
import Derived.Test.YtpdjhlcbcomdkaaGreatDoorR02
set_option linter.unusedVariables false
set_option linter.unusedSimpArgs false
set_option maxRecDepth 100000
set_option maxHeartbeats 16000000
open Go Go.Q
namespace Go.Proofs.Heap
open Go.RowKit
structure Fr (B:Nat) (S:Nat→Prop) (w w':World):Prop where
 os:w'.os=w.os
 tape:w'.tape=w.tape
 output:w'.output=w.output
 size:w.heap.size≤w'.heap.size
 block:∀ k,k<B→¬S k→w'.heap[k]?=w.heap[k]?
def PN:Nat→Prop:=fun _=>False
theorem Fr.Z7 {B:Nat} {w w':World} (S:Nat→Prop) (h:Below B w w'):Fr B S w w':=⟨h.os,h.tape,h.output,h.size,fun k hk _=>h.block k hk⟩
theorem Fr.below {B:Nat} {w w':World} (h:Fr B PN w w'):Below B w w':=⟨h.os,h.tape,h.output,h.size,fun k hk=>h.block k hk (fun x=>x)⟩
theorem Fr.refl (B:Nat) (S:Nat→Prop) (w:World):Fr B S w w:=⟨rfl,rfl,rfl,Zw _,fun _ _ _=>rfl⟩
theorem Fr.trans {B:Nat} {S:Nat→Prop} {a b c:World} (h:Fr B S a b) (k:Fr B S b c):Fr B S a c:=
 ⟨k.os.trans h.os,k.tape.trans h.tape,k.output.trans h.output,PO h.size k.size,fun i hi hs=>(k.block i hi hs).trans (h.block i hi hs)⟩
theorem Fr.mono {B B':Nat} {S S':Nat→Prop} {w w':World} (h:Fr B S w w') (hB:B'≤B) (hS:∀ k,k<B'→S k→S' k):Fr B' S' w w':=
 ⟨h.os,h.tape,h.output,h.size,fun k hk hs=>h.block k (OS hk hB) (fun x=>hs (hS k hk x))⟩
theorem Fr.drew {B:Nat} {S:Nat→Prop} {a w:World} (h:Fr B S a w):Fr B S a w.drew:=⟨h.os,h.tape,h.output,h.size,h.block⟩
theorem Fr.alloc {B:Nat} {S:Nat→Prop} {a w:World} (h:Fr B S a w) (hB:B≤w.heap.size) (o:Obj):Fr B S a (w.alloc o):=
 h.trans ⟨rfl,rfl,rfl,by simp,fun k hk _=>Below.heap_alloc _ _ _ Zo⟩
theorem Fr.setCell {B:Nat} {S:Nat→Prop} {a w:World} (h:Fr B S a w) {p:Addr} (hp:B≤p.block∨S p.block) (u:Value):Fr B S a (w.setCell p u):=
 h.trans ⟨rfl,rfl,rfl,by simp [World.setCell],fun k hk hs=>Below.heap_setCell _ _ _ _ (fun e=>by subst e;rcases hp with h|h;omega;exact hs h)⟩
theorem Fr.grown {B:Nat} {S:Nat→Prop} {a w w':World} {row:Option Nat} (h:Fr B S a w) (hg:w.grownBy w' row) (hB:B≤w.heap.size) (hr:∀ k,row=some k→B≤k):Fr B S a w':=
 h.trans ⟨hg.os,hg.tape,hg.output,hg.size,fun k hk _=>hg.block k Zo (fun e=>by have:=hr k e.symm;omega)⟩
theorem Fr.cell {B:Nat} {S:Nat→Prop} {w w':World} (h:Fr B S w w') {p:Addr} (hp:p.block<B) (hs:¬S p.block):w'.cell? p=w.cell? p:=World.cell?_of_block (w:=w) (h.block p.block hp hs)
theorem Fr.frozen {B:Nat} {S:Nat→Prop} {w w':World} (h:Fr B S w w') {p:Addr} (hp:p.block<B) (hs:¬S p.block):w'.frozen? p=w.frozen? p:=World.frozen?_of_block (w:=w) (h.block p.block hp hs)
theorem SY {W w1:World} (hb:Below W W w1):(∀ b o,b<W.heap.size→w1.cell? ⟨b,o,none⟩=W.cell? ⟨b,o,none⟩)∧(∀ b o,b<W.heap.size→w1.frozen? ⟨b,o,none⟩=W.frozen? ⟨b,o,none⟩):=
 ⟨fun b o h=>hb.cell (p:=⟨b,o,none⟩) h,fun b o h=>hb.frozen (p:=⟨b,o,none⟩) h⟩
theorem Fr.setAt {B b:Nat} {a w:World} (h:Fr B (· = b) a w) (o:Nat) (u:Value):Fr B (· = b) a (w.setCell ⟨b,o,none⟩ u):=h.setCell (p:=⟨b,o,none⟩) (Wh rfl) u
theorem Z' (w:World) (o:Obj):Below w w (w.alloc o):=(YJ _ _).alloc (Zw _) _
theorem size_setCell (w:World) (a:Addr) (v:Value):(w.setCell a v).heap.size=w.heap.size:=by simp [World.setCell]
theorem size_alloc (w:World) (o:Obj):(w.alloc o).heap.size=w.heap.size+1:=by simp
def Row (w:World) (e:TypeId) (v:Value) (n:Nat) (xs:List Value):Prop:=
 ∃ a cap,v = .slice a n cap∧n≤cap∧cap≤maxLen∧(a=none→n=0∧cap=0)∧(xs=[]∨∃ b off c fr,a=some ⟨b,off,none⟩∧w.heap[b]?=some (.cells c e fr)∧∀ j,j<xs.length→c[off+j]?=xs[j]?)
theorem Row.fr {B:Nat} {S:Nat→Prop} {w w':World} {e:TypeId} {v:Value} {n:Nat} {xs:List Value} (h:Row w e v n xs) (hf:Fr B S w w') (hB:w.heap.size≤B) (hS:∀ k c fr,S k→w.heap[k]?≠some (.cells c e fr)):Row w' e v n xs:=by
 obtain ⟨a,cap,hv,h1,h2,h0,h3⟩:=h;refine ⟨a,cap,hv,h1,h2,h0,?_⟩;rcases h3 with h3|⟨b,off,c,fr,ha,hb,hc⟩
 ·exact Ws h3
 ·have PV:b<w.heap.size:=by
   rcases Nat.lt_or_ge b w.heap.size with h|h
   ·exact h
   ·rw [E7 h] at hb;cases hb
  exact Wh ⟨b,off,c,fr,ha,by rw [hf.block b Zo (fun hs=>hS b c fr hs hb)];exact hb,hc⟩
theorem Row.below {w w':World} {e:TypeId} {v:Value} {n:Nat} {xs:List Value} (h:Row w e v n xs) (hb:Below w w w'):Row w' e v n xs:=
 h.fr (Fr.Z7 PN hb) (Zw _) (fun _ _ _ h=>h.elim)
theorem Row.setCell {w:World} {e:TypeId} {v:Value} {n:Nat} {xs:List Value} (h:Row w e v n xs) {p:Addr} {c:Array Value} {e2:TypeId} {f:Nat × Nat} (hp:w.heap[p.block]?=some (.cells c e2 f)) (WK:e≠e2) (u:Value):Row (w.setCell p u) e v n xs:=
 h.fr ((Fr.refl w.heap.size (· = p.block) w).setCell (Wh rfl) u) (Zw _) (fun k c' fr hk he=>by subst hk;rw [hp] at he;injection he with he;injection he with _ he _;exact WK he.symm)
theorem Z8 (w:World) (o:Obj):(w.alloc o).heap[w.heap.size]?=some o:=by show (w.heap.push o)[w.heap.size]?=_;simp
theorem V5 (w:World) (A B:Obj):((w.alloc A).alloc B).heap[w.heap.size]?=some A∧((w.alloc A).alloc B).heap[w.heap.size+1]?=some B:=by
 constructor
 ·rw [Below.heap_alloc _ _ _ Zi];exact Z8 w A
 ·have:=Z8 (w.alloc A) B
  rwa [World.size_alloc] at this
theorem Uo {c c':Array Value} {e e':TypeId} {f f':Nat × Nat} (h:e≠e'):some (Obj.cells c e f)≠some (Obj.cells c' e' f'):=by
 intro he;injection he with he;injection he with _ he _;exact h he
theorem Row.nil (w:World) (e:TypeId):Row w e (.slice none 0 0) 0 []:=⟨none,0,rfl,Zw _,Tk _,fun _=>⟨rfl,rfl⟩,Ws rfl⟩
theorem Row.Z6 {w:World} {base:Nat} {e:TypeId} {size:Nat} {v:Value} {n:Nat} {xs:List Value} (h:w.ownsRow base e size v n xs):Row w e v n xs:=by
 obtain ⟨hl,h⟩:=h;rcases h with ⟨hv,hn⟩|⟨g,cap,cur,hv,_,hh,h1,h2,h3,h4⟩
 ·subst hn;have:xs=[]:=BN Zo;subst this;exact ⟨none,0,hv,Zw _,Tk _,fun _=>⟨rfl,rfl⟩,Ws rfl⟩
 ·refine ⟨some ⟨g,0,none⟩,cap,hv,h1,h2,(fun h=>by cases h),Wh ⟨g,0,cur,_,rfl,hh,fun j hj=>?_⟩⟩;rw [QD,←h4,List.getElem?_take_of_lt Zo];simp
theorem SL (w:World) (e:TypeId) (size:Nat):(w.alloc (.cells #[] e)).ownsRow w e size (.slice (some ⟨w,0,none⟩) 0 0) 0 []:=
 ⟨by simp,.inr ⟨w,0,#[],rfl,Zw _,(by show (w.heap.push _)[w.heap.size]?=_;simp),Zw _,Tk _,by simp,by simp⟩⟩
theorem Row.open {w:World} {e:TypeId} {v:Value} {n:Nat} {xs:List Value} (h:Row w e v n xs) (WK:0<xs.length):∃ b off cap,v = .slice (some ⟨b,off,none⟩) n cap∧n≤cap∧cap≤maxLen∧b<w.heap.size∧∀ j,j<xs.length→w.cell? ⟨b,off+j,none⟩=xs[j]?:=by
 obtain ⟨a,cap,hv,h1,h2,_,h3⟩:=h;rcases h3 with h3|⟨b,off,c,fr,ha,hb,hc⟩
 ·subst h3;simp at WK
 ·subst ha
  have PV:b<w.heap.size:=by
   rcases Nat.lt_or_ge b w.heap.size with h|h
   ·exact h
   ·rw [E7 h] at hb;cases hb
  refine ⟨b,off,cap,hv,h1,h2,PV,fun j hj=>?_⟩;simp only [World.cell?,hb];exact hc j hj
theorem Row.len {w:World} {e:TypeId} {v:Value} {n:Nat} {xs:List Value} (h:Row w e v n xs):n≤9223372036854775807:=by
 obtain ⟨a,cap,_,h1,h2,_,_⟩:=h;unfold maxLen at h2;omega
def XR (w:World) (v:Value) (n:Nat) (xs:List Value):Prop:=
 ∃ a cap,v = .slice a n cap∧n≤cap∧cap≤maxLen∧(a=none→n=0∧cap=0)∧(xs=[]∨∃ b off,a=some ⟨b,off,none⟩∧b<w.heap.size∧∀ j,j<xs.length→w.cell? ⟨b,off+j,none⟩=xs[j]?)
theorem XR.below {w w':World} {v:Value} {n:Nat} {xs:List Value} (h:XR w v n xs) (hb:Below w w w'):XR w' v n xs:=by
 obtain ⟨a,cap,hv,h1,h2,h0,h3⟩:=h;refine ⟨a,cap,hv,h1,h2,h0,?_⟩;rcases h3 with h3|⟨b,off,ha,PV,hc⟩
 ·exact Ws h3
 ·exact Wh ⟨b,off,ha,OS PV hb.size,fun j hj=>(hb.cell (p:=⟨b,off+j,none⟩) PV).trans (hc j hj)⟩
theorem XR.len {w:World} {v:Value} {n:Nat} {xs:List Value} (h:XR w v n xs):n≤9223372036854775807:=by
 obtain ⟨a,cap,_,h1,h2,_,_⟩:=h;unfold maxLen at h2;omega
theorem XR.open {w:World} {v:Value} {n:Nat} {xs:List Value} (h:XR w v n xs) (WK:0<xs.length):∃ b off cap,v = .slice (some ⟨b,off,none⟩) n cap∧n≤cap∧cap≤maxLen∧b<w.heap.size∧∀ j,j<xs.length→w.cell? ⟨b,off+j,none⟩=xs[j]?:=by
 obtain ⟨a,cap,hv,h1,h2,_,h3⟩:=h;rcases h3 with h3|⟨b,off,ha,PV,hc⟩
 ·subst h3;simp at WK
 ·subst ha;exact ⟨b,off,cap,hv,h1,h2,PV,hc⟩
theorem Row.r {w:World} {e:TypeId} {v:Value} {n:Nat} {xs:List Value} (h:Row w e v n xs):XR w v n xs:=by
 obtain ⟨a,cap,hv,h1,h2,h0,h3⟩:=h;refine ⟨a,cap,hv,h1,h2,h0,?_⟩;rcases h3 with h3|⟨b,off,c,fr,ha,hb,hc⟩
 ·exact Ws h3
 ·refine Wh ⟨b,off,ha,?_,fun j hj=>?_⟩
  ·rcases Nat.lt_or_ge b w.heap.size with h|h
   ·exact h
   ·rw [E7 h] at hb;cases hb
  ·simp only [World.cell?,hb];exact hc j hj
theorem XR.nil (w:World):XR w (.slice none 0 0) 0 []:=⟨none,0,rfl,Zw _,Tk _,fun _=>⟨rfl,rfl⟩,Ws rfl⟩
theorem MV {α:Type} (f:α→List Value) (k:Nat) (hk:∀ x,(f x).length=k):∀ (l:List α) (i j:Nat) (x:α),l[i]?=some x→j<k→(l.flatMap f)[i*k+j]?=(f x)[j]?
 | [],_,_,_,h,_=>by simp at h
 | y :: l,0,j,x,h,hj=>by
  simp only [SD,Option.some.injEq] at h;subst h;rw [List.flatMap_cons,Nat.zero_mul,QD,Z1e (by rw [hk];exact hj)]
 | y :: l,i+1,j,x,h,hj=>by
  rw [R8] at h;rw [List.flatMap_cons,Z1c (by rw [hk,Nat.succ_mul];omega),hk,show (i+1)*k+j-k=i*k+j by rw [Nat.succ_mul];omega];exact MV f k hk l i j x h hj
theorem XG {α:Type} (f:α→List Value) (k:Nat) (hk:∀ x,(f x).length=k) (l:List α):(l.flatMap f).length=l.length*k:=by
 induction l with
 | nil=>simp
 | cons y l ih=>rw [List.flatMap_cons,UE,hk,ih,List.length_cons,Nat.succ_mul];omega
end Go.Proofs.Heap
namespace Go.Proofs.By
open Go.RowKit Go.Proofs.Heap
def RD (l:List UInt8):List Value:=l.map fun b=>Value.int .u8 (b.toNat:Int)
theorem Xh (l:List UInt8):(RD l).length=l.length:=TB _
theorem OX (l:List UInt8) (k:Nat):(RD l).take k=RD (l.take k):=(List.map_take).symm
theorem QN (l:List UInt8) (k:Nat):(RD l).drop k=RD (l.drop k):=(List.map_drop).symm
theorem BU (l:List UInt8):∀ u∈RD l,u.oneCell'=true:=by
 intro u hu;obtain ⟨b,_,rfl⟩:=vO.1 hu;rfl
def be (l:List UInt8):Nat:=l.foldl (fun n x=>n*256+x.toNat) 0
theorem jB (l:List UInt8) (x:UInt8):be (l++[x])=be l*256+x.toNat:=by unfold be;rw [List.foldl_append];rfl
theorem gg:∀ (l:List UInt8) (n:Nat),l.foldl (fun n x=>n*256+x.toNat) n<(n+1)*256 ^ l.length
 | [],n=>by simp
 | x :: l,n=>by
  have ih:=gg l (n*256+x.toNat);have hx:=x.toNat_lt;rw [List.foldl_cons,List.length_cons,Nat.pow_succ,Nat.mul_comm (256 ^ l.length),←Nat.mul_assoc];exact OS ih (Nat.mul_le_mul_right _ Zo)
theorem DT (l:List UInt8):be l<256 ^ l.length:=by
 have:=gg l 0;rw [QD,Nat.one_mul] at this;exact this
theorem ct {l:List UInt8} (h:l.length≤7):be l<72057594037927936:=
 OS (DT l) (PO (Nat.pow_le_pow_right Zd h) Zd)
theorem cr {l:List UInt8} (h:l.length≤4):be l<4294967296:=
 OS (DT l) (PO (Nat.pow_le_pow_right Zd h) Zd)
theorem ck {l:List UInt8} (h:l.length≤3):be l<16777216:=
 OS (DT l) (PO (Nat.pow_le_pow_right Zd h) Zd)
theorem cj {l:List UInt8} (h:l.length≤2):be l<65536:=
 OS (DT l) (PO (Nat.pow_le_pow_right Zd h) Zd)
theorem kK (n:Nat) (x:UInt8) (h:n<72057594037927936):bits .or .u64 ((n:Int)*256) (x.toNat:Int)=((n*256+x.toNat:Nat):Int):=by
 have hx:=x.toNat_lt;have e:((n:Int)*256)=((n*256:Nat):Int):=by omega
 rw [e,u64_or_nat (n*256) x.toNat Zo Zo,nat_join 8 (n*256) x.toNat Zo Zo]
def within (len:Nat) (at' size:Int):Bool:=decide (1≤size) && decide (size≤8) && decide (0≤at') && decide (at'≤(len:Int)-size)
theorem within_iff {len:Nat} {at' size:Int}:within len at' size=true↔1≤size∧size≤8∧0≤at'∧at'+size≤len:=by
 unfold within;simp only [UR,Pz];omega
def get (b:List UInt8) (at' size:Int):Nat:=if within b.length at' size then be ((b.drop at'.toNat).take size.toNat) else 0
end Go.Proofs.By
namespace Go.Proofs.Heap
open Go Go.RowKit
section
variable {P:Program}
structure Elem (P:Program) (t e:TypeId) (size bytes:Nat):Prop where
 ht:P.underlying t=some (.slice e)
 info:∃ z,(P.info? e).map (fun i=>(i.zero,i.size,i.bytes))=some (some z,size,bytes)∧z.cells.size=size
 pos:0<size
theorem YV {ops:Array Oper} {rest:List Oper} {o:Oper} {a:Act} {w:World} {Q:Exit→Act→World→Prop} (Mb:o.guard=none) (s x:Operand) (t:TypeId)
  (ho:o.op = .call {callee:= .builtin .append,args:=#[s,x],argTypes:=#[t,t]})
  (base:Nat) {e:TypeId} {size bytes:Nat} (E:Elem P t e size bytes)
  (v:Value) (n:Nat) (xs:List Value) (hs:a.eval s=v) (YH:w.ownsRow base e size v n xs)
  (vx:Value) (m:Nat) (news:List Value) (hx:a.eval x=vx) (ZY:Row w e vx m news) (hl:news.length=m*size) (h1:∀ u∈news,u.oneCell'=true)
  (Ur:(n+m)*bytes≤140737488355328) (nT:n+m≤9223372036854775807) (R_:base≤w.heap.size)
  (h:∀ v' w',Hid (w'.ownsRow base e size v' (n+m) (xs++news))→Hid (w.grownBy w' v.ownBlock)→wpList P ops Q rest (a.put o.dst v') w'):wpList P ops Q (o :: rest) a w:=by
 obtain ⟨z,Uz,lH⟩:=E.info;obtain ⟨i,hi,hz,Sg,oh⟩:=info_parts Uz;obtain ⟨ad,cap,hv,_,_,h0,hr⟩:=ZY;subst hv;have wm:n+m≤maxLen:=by unfold maxLen;omega
 cases ad with
 | none=>
  exact Yx94
 | some ad=>
  refine wpList_append_own w Mb s x t ho base e i z size bytes E.ht hi hz Sg oh lH E.pos v n xs hs YH ad m cap news hx hl ?_ h1 wm Ur R_ (fun v' w' h2 h3 _=>h v' w' h2 h3);intro j u hu;rcases hr with hr|⟨b,off,c,fr,NS,hb,hc⟩
  ·subst hr;simp at hu
  ·cases NS;have hj:j<news.length:=(List.getElem?_eq_some_iff.1 hu).1;have:=hc j hj;have Nk:(⟨b,off,none⟩:Addr).add j=⟨b,off+j,none⟩:=by unfold Addr.add;split <;> simp_all
   rw [Nk];simp only [World.cell?,hb];simpa [hu] using this
theorem QB {ops:Array Oper} {rest:List Oper} {o:Oper} {a:Act} {w:World} {Q:Exit→Act→World→Prop} (Mb:o.guard=none) (s x:Operand) (t:TypeId)
  (ho:o.op = .call {callee:= .builtin .append,args:=#[s,x],argTypes:=#[t,t]})
  (base:Nat) {e:TypeId} {size bytes:Nat} (E:Elem P t e size bytes)
  (v:Value) (n:Nat) (xs:List Value) (hs:a.eval s=v) (YH:w.ownsRow base e size v n xs)
  (vx:Value) (m:Nat) (news:List Value) (hx:a.eval x=vx) (ZY:XR w vx m news) (hl:news.length=m*size) (h1:∀ u∈news,u.oneCell'=true)
  (Ur:(n+m)*bytes≤140737488355328) (nT:n+m≤9223372036854775807) (R_:base≤w.heap.size)
  (h:∀ v' w',Hid (w'.ownsRow base e size v' (n+m) (xs++news))→Hid (w.grownBy w' v.ownBlock)→wpList P ops Q rest (a.put o.dst v') w'):wpList P ops Q (o :: rest) a w:=by
 obtain ⟨z,Uz,lH⟩:=E.info;obtain ⟨i,hi,hz,Sg,oh⟩:=info_parts Uz;obtain ⟨ad,cap,hv,_,_,h0,hr⟩:=ZY;subst hv;have wm:n+m≤maxLen:=by unfold maxLen;omega
 cases ad with
 | none=>
  exact Yx94
 | some ad=>
  refine wpList_append_own w Mb s x t ho base e i z size bytes E.ht hi hz Sg oh lH E.pos v n xs hs YH ad m cap news hx hl ?_ h1 wm Ur R_ (fun v' w' h2 h3 _=>h v' w' h2 h3);intro j u hu;rcases hr with hr|⟨b,off,NS,PV,hc⟩
  ·subst hr;simp at hu
  ·cases NS;have hj:j<news.length:=(List.getElem?_eq_some_iff.1 hu).1;have:=hc j hj;have Nk:(⟨b,off,none⟩:Addr).add j=⟨b,off+j,none⟩:=by unfold Addr.add;split <;> simp_all
   rw [Nk,this];exact hu
end
section
variable {P:Program}
theorem Elem.Dm {t e:TypeId} {size bytes:Nat} (E:Elem P t e size bytes) (w:World):(sizeOf (P.elem t)).run P w = .ok size w:=by
 obtain ⟨z,Uz,_⟩:=E.info;obtain ⟨i,hi,_,Sg,_⟩:=info_parts Uz;have he:P.elem t=e:=by simp [Program.elem,E.ht]
 rw [he];simp [sizeOf,typeInfo,hi,Sg]
theorem Elem.under {t e:TypeId} {size bytes:Nat} (E:Elem P t e size bytes):P.underlying t=some (.slice (P.elem t)):=by
 have he:P.elem t=e:=by simp [Program.elem,E.ht]
 rw [he];exact E.ht
theorem Sp {t e:TypeId} {size bytes:Nat} (E:Elem P t e size bytes) (a:Option Addr) (n cap k:Nat) (hk:k≤cap) :
  ∃ a',(∀ w,(Instr.slice t (.slice a n cap) none (some (.int .i64 (k:Int))) none).run P w = .ok (.slice a' k cap) w) ∧
   (∀ w xs,k≤n→xs.length=n*size→Row w e (.slice a n cap) n xs→Row w e (.slice a' k cap) k (xs.take (k*size))) ∧
   (∀ w xs,k≤n→xs.length=n*size→XR w (.slice a n cap) n xs→XR w (.slice a' k cap) k (xs.take (k*size))):=by
 have Nk:∀ (b off:Nat),(⟨b,off,none⟩:Addr).add (0*size)=⟨b,off,none⟩:=fun b off=>by simp [Addr.add]
 have ha:∀ b off:Nat,a=some ⟨b,off,none⟩→(if cap=0 then a else a.map (·.add (0*size)))=some ⟨b,off,none⟩:=fun b off h=>by
  subst h;split
  ·rfl
  ·simp [Addr.add]
 refine ⟨if cap=0 then a else a.map (·.add (0*size)),fun w=>?_,?_,?_⟩
 ·rw [run_slice_h w t a n cap E.under .i64 (k:Int) Zo Zo,E.Dm];simp [Result.andThen,sliced]
 ·rintro w xs hkn hl ⟨a2,cap2,hv,h1,h2,h0,h3⟩;cases hv;refine ⟨_,cap,rfl,hk,h2,?_,?_⟩
  ·exact je
  ·rcases h3 with h3|⟨b,off,c,fr,NS,hb,hc⟩
   ·subst h3;simp
   ·refine Wh ⟨b,off,c,fr,ha b off NS,hb,fun j hj=>?_⟩;rw [S4] at hj;rw [hc j Zo,List.getElem?_take_of_lt Zo]
 ·rintro w xs hkn hl ⟨a2,cap2,hv,h1,h2,h0,h3⟩;cases hv;refine ⟨_,cap,rfl,hk,h2,?_,?_⟩
  ·exact je
  ·rcases h3 with h3|⟨b,off,NS,hb,hc⟩
   ·subst h3;simp
   ·refine Wh ⟨b,off,ha b off NS,hb,fun j hj=>?_⟩;rw [S4] at hj;rw [hc j Zo,List.getElem?_take_of_lt Zo]
theorem SP {t e:TypeId} {size bytes:Nat} (E:Elem P t e size bytes) (a:Option Addr) (n cap k:Nat) (hk:k≤n) (hn:n≤cap) :
  ∃ a',(∀ w,(Instr.slice t (.slice a n cap) (some (.int .i64 (k:Int))) none none).run P w = .ok (.slice a' (n-k) (cap-k)) w) ∧
   (∀ w xs,xs.length=n*size→Row w e (.slice a n cap) n xs→Row w e (.slice a' (n-k) (cap-k)) (n-k) (xs.drop (k*size))) ∧
   (∀ w xs,xs.length=n*size→XR w (.slice a n cap) n xs→XR w (.slice a' (n-k) (cap-k)) (n-k) (xs.drop (k*size))):=by
 have Nk:∀ (b off d:Nat),(⟨b,off,none⟩:Addr).add d=⟨b,off+d,none⟩:=fun b off d=>by unfold Addr.add;split <;> simp_all
 refine ⟨if cap=k then a else a.map (·.add (k*size)),fun w=>?_,?_,?_⟩
 ·rw [run_slice_l w t a n cap E.under .i64 (k:Int) Zo Zo,E.Dm];simp [Result.andThen,sliced]
 ·rintro w xs hl ⟨a2,cap2,hv,h1,h2,h0,h3⟩;cases hv;refine ⟨_,cap-k,rfl,Zo,by unfold maxLen at *;omega,?_,?_⟩
  ·exact je
  ·rcases h3 with h3|⟨b,off,c,fr,NS,hb,hc⟩
   ·subst h3;simp
   ·by_cases hck:cap=k
    ·obtain rfl:n=k:=by omega
     left;rw [←hl];simp
    ·refine Wh ⟨b,off+k*size,c,fr,by rw [Z4 hck,NS];simp [Nk],hb,fun j hj=>?_⟩;rw [Rg] at hj;rw [Nat.add_assoc,hc _ Zo,List.getElem?_drop]
 ·rintro w xs hl ⟨a2,cap2,hv,h1,h2,h0,h3⟩;cases hv;refine ⟨_,cap-k,rfl,Zo,by unfold maxLen at *;omega,?_,?_⟩
  ·exact je
  ·rcases h3 with h3|⟨b,off,NS,hb,hc⟩
   ·subst h3;simp
   ·by_cases hck:cap=k
    ·obtain rfl:n=k:=by omega
     left;rw [←hl];simp
    ·refine Wh ⟨b,off+k*size,by rw [Z4 hck,NS];simp [Nk],hb,fun j hj=>?_⟩;rw [Rg] at hj;rw [Nat.add_assoc,hc _ Zo,List.getElem?_drop]
end
end Go.Proofs.Heap
namespace Go.Proofs.Heap
open Go Go.RowKit
section
variable {P:Program}
theorem Wk {t e:TypeId} {size bytes:Nat} (E:Elem P t e size bytes) (a:Option Addr) (n cap l h:Nat) (hl:l≤h) (hh:h≤n) (hn:n≤cap) :
  ∃ a',(∀ w,(Instr.slice t (.slice a n cap) (some (.int .i64 (l:Int))) (some (.int .i64 (h:Int))) none).run P w = .ok (.slice a' (h-l) (cap-l)) w) ∧
   (∀ w xs,xs.length=n*size→XR w (.slice a n cap) n xs→XR w (.slice a' (h-l) (cap-l)) (h-l) ((xs.drop (l*size)).take ((h-l)*size))):=by
 have Nk:∀ (b off d:Nat),(⟨b,off,none⟩:Addr).add d=⟨b,off+d,none⟩:=fun b off d=>by unfold Addr.add;split <;> simp_all
 refine ⟨if cap=l then a else a.map (·.add (l*size)),fun w=>?_,?_⟩
 ·rw [run_slice_lh w t a n cap E.under .i64 .i64 (l:Int) (h:Int) Zo Zo Zo,E.Dm];simp [Result.andThen,sliced]
 ·rintro w xs hxl ⟨a2,cap2,hv,h1,h2,h0,h3⟩;cases hv;refine ⟨_,cap-l,rfl,Zo,by unfold maxLen at *;omega,?_,?_⟩
  ·intro oH
   have:a=none:=by
    split at oH
    ·exact oH
    ·simpa using oH
   have:=h0 this;omega
  ·rcases h3 with h3|⟨b,off,NS,hb,hc⟩
   ·subst h3;simp
   ·by_cases hck:cap=l
    ·left
     have:h-l=0:=by omega
     rw [this];simp
    ·refine Wh ⟨b,off+l*size,by rw [Z4 hck,NS];simp [Nk],hb,fun j hj=>?_⟩;rw [S4,Rg] at hj;rw [Nat.add_assoc,hc _ Zo,List.getElem?_take_of_lt Zo,List.getElem?_drop]
end
end Go.Proofs.Heap
namespace Go.Proofs.By
open Go.RowKit Go.Proofs.Heap
theorem Xw {a b:Bool} (h:a=b):Ending.returned (.bool a) = .returned (.bool b):=by rw [h]
theorem VF:Elem Tryz.prog 30 5 1 1:=⟨Tryz.underlying30,⟨.int .u8 0,by kernel_rfl,rfl⟩,by decide⟩
abbrev X6 (w:World) (v:Value) (l:List UInt8):Prop:=XR w v l.length (RD l)
theorem BQ {w:World} {v:Value} {l:List UInt8} (h:X6 w v l) (hl:0<l.length):∃ g off cap,v = .slice (some ⟨g,off,none⟩) l.length cap∧l.length≤cap∧cap≤maxLen ∧
  ∀ (j:Nat) (hj:j<l.length),w.cell? ⟨g,off+j,none⟩=some (.int .u8 (l[j].toNat:Int)):=by
 obtain ⟨g,off,cap,h1,h2,h3,_,h5⟩:=h.open (by rw [Xh];exact hl);refine ⟨g,off,cap,h1,h2,h3,fun j hj=>?_⟩;rw [h5 j (by rw [Xh];exact hj)];simp [RD,hj]
theorem yg (a:Option Addr) (n c:Nat) (p q:Int) (w:World) (hn:n≤9223372036854775807) :
  Calls Tryz.prog 176 #[.slice a n c,.int .i64 p,.int .i64 q] w fun e w'=>e = .returned (.bool (within n p q))∧w=w':=by
 have HW:Hid (within n p q=(decide (1≤q) && decide (q≤8) && decide (0≤p) && decide (p≤(n:Int)-q))):=rfl;generalize within n p q=x at *
 by_cases h1:1≤q
 ·by_cases h2:q≤8
  ·by_cases h3:0≤p
   ·have HF:Hid (x=decide (p≤(n:Int)-q)):=by show _=_;rw [HW.o,Wi h1,Wi h2,Wi h3];simp
    have d1:decide (1≤q)=true:=Wi h1;have d2:decide (q≤8)=true:=Wi h2;have d3:decide (0≤p)=true:=Wi h3;exact jv
   ·have HF:Hid (x=false):=by show _=_;rw [HW.o,WI h3];simp
    have d1:decide (1≤q)=true:=Wi h1;have d2:decide (q≤8)=true:=Wi h2;have d3:decide (0≤p)=false:=WI h3;exact jv
  ·have HF:Hid (x=false):=by show _=_;rw [HW.o,WI h2];simp
   have d1:decide (1≤q)=true:=Wi h1;have d2:decide (q≤8)=false:=WI h2;exact jv
 ·have HF:Hid (x=false):=by show _=_;rw [HW.o,WI h1];simp
  have d1:decide (1≤q)=false:=WI h1;exact jv
theorem N8 (v:Value) (b:List UInt8) (p q:Int) (w:World) (hv:X6 w v b) :
  Calls Tryz.prog 155 #[v,.int .i64 p,.int .i64 q] w fun e w'=>e = .returned (.tuple (Jk (get b p q:Nat) (within b.length p q)))∧w=w':=by
 have hlen:=hv.len;obtain ⟨a,c,rfl,hc,-⟩:=id hv;have CW:=Zh (yg a b.length c p q w hlen);cases hw:within b.length p q
 ·have HG:Hid (get b p q=0):=by show _=_;unfold get;rw [hw];rfl
  rw [hw] at CW;rw [HG.o];clear hw HG;go_enter Tryz.func155,Tryz.ntmps155;go_wp2_with (go_at_call 176;refine CW.o.mono ?_;rintro e w' ⟨rfl,rfl⟩)
  go_ret2
  exact ⟨rfl,rfl⟩
 ·obtain ⟨h1,h2,h3,h4⟩:=within_iff.1 hw;have HG:Hid (get b p q=be ((b.drop p.toNat).take q.toNat)):=by show _=_;unfold get;rw [hw];rfl
  rw [hw] at CW;obtain ⟨p,rfl⟩:=Rf h3;obtain ⟨q,rfl⟩:=Rf (show 0≤q by omega);rw [Wz,Wz] at HG;obtain ⟨a',Uw,ZY⟩:=Wk VF a b.length c p (p+q) Zo Zo hc;have ZY:=ZY w (RD b) (by rw [Xh];omega) hv;rw [Nat.mul_one,Nat.mul_one,Nat.add_sub_cancel_left,QN,OX] at ZY;rw [Nat.add_sub_cancel_left] at Uw;have af:((b.drop p).take q).length=q:=by rw [S4,Rg];omega
  have gW:((p+q:Nat):Int)=(p:Int)+(q:Int):=by omega
  rw [gW] at Uw;rw [HG.o];have U':=Zh ZY;clear hw HG ZY hv gW;generalize (b.drop p).take q=s at *
  subst af;go_enter Tryz.func155,Tryz.ntmps155;go_wp2_with (go_at_call 176;refine CW.o.mono ?_;rintro e w' ⟨rfl,rfl⟩)
  exact Yx44
theorem AR (a:Option Addr) (n c:Nat) (p q:Int) (w:World) (hn:n≤9223372036854775807) :
  Calls Tryz.prog 167 #[.slice a n c,.int .i64 p,.int .i64 q] w fun e w'=>e = .returned (.bool (within n p q))∧w=w':=by
 have HW:Hid (within n p q=(decide (1≤q) && decide (q≤8) && decide (0≤p) && decide (p≤(n:Int)-q))):=rfl;generalize within n p q=x at *
 by_cases h1:1≤q
 ·by_cases h2:q≤8
  ·by_cases h3:0≤p
   ·have d1:decide (1≤q)=true:=Wi h1;have d2:decide (q≤8)=true:=Wi h2;have d3:decide (0≤p)=true:=Wi h3;by_cases h4:p≤(n:Int)
    ·have HF:Hid (x=decide (q≤(n:Int)-p)):=by
      show _=_;rw [HW.o,d1,d2,d3];simp only [Bool.true_and];exact decide_eq_decide.2 Zo
     have d4:decide (p≤(n:Int))=true:=Wi h4;exact np
    ·have HF:Hid (x=false):=by show _=_;rw [HW.o,WI (show ¬p≤(n:Int)-q by omega),Bool.and_false]
     have d4:decide (p≤(n:Int))=false:=WI h4;exact np
   ·have HF:Hid (x=false):=by show _=_;rw [HW.o,WI h3];simp
    have d1:decide (1≤q)=true:=Wi h1;have d2:decide (q≤8)=true:=Wi h2;have d3:decide (0≤p)=false:=WI h3;exact np
  ·have HF:Hid (x=false):=by show _=_;rw [HW.o,WI h2];simp
   have d1:decide (1≤q)=true:=Wi h1;have d2:decide (q≤8)=false:=WI h2;exact np
 ·have HF:Hid (x=false):=by show _=_;rw [HW.o,WI h1];simp
  have d1:decide (1≤q)=false:=WI h1;exact np
theorem pM (v:Value) (b:List UInt8) (p q:Int) (w:World) (hv:X6 w v b) :
  Calls Tryz.prog 145 #[v,.int .i64 p,.int .i64 q] w fun e w'=>e = .returned (.tuple (Jk (get b p q:Nat) (within b.length p q)))∧w=w':=by
 have hlen:=hv.len;obtain ⟨a,c,rfl,hc,-⟩:=id hv;have CW:=Zh (AR a b.length c p q w hlen);cases hw:within b.length p q
 ·have HG:Hid (get b p q=0):=by show _=_;unfold get;rw [hw];rfl
  rw [hw] at CW;rw [HG.o];clear hw HG;go_enter Tryz.func145,Tryz.ntmps145;go_wp2_with (go_at_call 167;refine CW.o.mono ?_;rintro e w' ⟨rfl,rfl⟩)
  go_ret2
  exact ⟨rfl,rfl⟩
 ·obtain ⟨h1,h2,h3,h4⟩:=within_iff.1 hw;have HG:Hid (get b p q=be ((b.drop p.toNat).take q.toNat)):=by show _=_;unfold get;rw [hw];rfl
  rw [hw] at CW;obtain ⟨p,rfl⟩:=Rf h3;obtain ⟨q,rfl⟩:=Rf (show 0≤q by omega);rw [Wz,Wz] at HG;obtain ⟨a',Uw,ZY⟩:=Wk VF a b.length c p (p+q) Zo Zo hc;have ZY:=ZY w (RD b) (by rw [Xh];omega) hv;rw [Nat.mul_one,Nat.mul_one,Nat.add_sub_cancel_left,QN,OX] at ZY;rw [Nat.add_sub_cancel_left] at Uw;have af:((b.drop p).take q).length=q:=by rw [S4,Rg];omega
  have gW:((p+q:Nat):Int)=(p:Int)+(q:Int):=by omega
  rw [gW] at Uw;rw [HG.o];have U':=Zh ZY;clear hw HG ZY hv gW;generalize (b.drop p).take q=s at *
  subst af;go_enter Tryz.func145,Tryz.ntmps145;go_wp2_with (go_at_call 167;refine CW.o.mono ?_;rintro e w' ⟨rfl,rfl⟩)
  exact Yx44
def at8 (b:List UInt8) (i:Nat):Nat:=(b.getD i 0).toNat
structure KI where
 XP:Bool
 type:Int
 seq:Int
 time:Int
 YE:Int
 VN:List Int
 XO:Bool
 Yl:Int
 ext:List UInt8
 ZG:List UInt8
 pad:Int
def WT:KI:=⟨false,0,0,0,0,[],false,0,[],[],0⟩
def Vq (b:List UInt8) (p:Nat):(Nat × Nat) × Bool:=
 if at8 b 0 / 16 % 2=0 then ((p,p),decide (p≤b.length))
 else ((p+4,p+4+4*get b ((p:Int)+2) 2),within b.length ((p:Int)+2) 2 && decide (p+4+4*get b ((p:Int)+2) 2≤b.length))
def R3 (b rest:List UInt8):Nat × Bool:=
 if at8 b 0 / 32 % 2=0 then (0,true)
 else if rest.length=0 then (0,false)
 else
  let n:=at8 rest (rest.length-1)
  if n=0∨rest.length<n then (0,false)
  else if ((rest.drop (rest.length-n)).take (n-1)).all (fun x=>decide (x=0)) then (n,true) else (0,false)
def looks (b:List UInt8):(Nat × Nat × Nat) × Int:=
 if 512<b.length then ((0,0,0),5)
 else if b.length<12 then ((0,0,0),2)
 else if at8 b 0 / 64≠2 then ((0,0,0),1)
 else if 192≤at8 b 1∧at8 b 1≤223 then ((0,0,0),4)
 else
  let x:=Vq b (12+4*(at8 b 0 % 16))
  if x.2=false then ((0,0,0),2)
  else
   let y:=R3 b (b.drop x.1.2)
   if y.2=false then ((0,0,0),1) else ((x.1.1,x.1.2,b.length-y.1),0)
def TH (b:List UInt8) (s:Nat × Nat × Nat):KI where
 XP:=decide (128≤at8 b 1)
 type:=(at8 b 1 % 128:Nat)
 seq:=get b 2 2
 time:=get b 4 4
 YE:=get b 8 4
 VN:=(List.range (at8 b 0 % 16)).map fun (i:Nat)=>((get b (12+4*(i:Int)) 4:Nat):Int)
 XO:=decide (at8 b 0 / 16 % 2=1)
 Yl:=if at8 b 0 / 16 % 2=1 then (get b ((s.1:Int)-4) 2:Int) else 0
 ext:=if at8 b 0 / 16 % 2=1 then (b.drop s.1).take (s.2.1-s.1) else []
 ZG:=(b.drop s.2.1).take (s.2.2-s.2.1)
 pad:=(b.length:Int)-s.2.2
def YM (b:List UInt8):KI × Int:=if (looks b).2≠0 then (WT,(looks b).2) else (TH b (looks b).1,0)
structure FJ where
 ZH:Int
 key:Bool
 start:Bool
 frame:Int
def Tu:FJ:=⟨0,false,false,0⟩
def Yy (b:List UInt8):FJ × Int:=
 if b.length<4 then (Tu,2)
 else if at8 b 0 / 4 % 16≠0∨at8 b 0 % 4=3∨at8 b 1≠90 then (Tu,1)
 else (⟨(at8 b 0 % 4:Nat),decide (128≤at8 b 0),decide (at8 b 0 / 64 % 2=1),get b 2 2⟩,0)
end Go.Proofs.By
namespace Go.Proofs.By
open Go.RowKit Go.Proofs.Heap
theorem cf {b:List UInt8} {i:Nat} (h:i<b.length):at8 b i=b[i].toNat:=by
 unfold at8;rw [SC,Vb h];rfl
theorem Xl (b:List UInt8) (i:Nat):at8 b i<256:=by unfold at8;exact (b.getD i 0).toNat_lt
theorem RR {w:World} {v:Value} {l:List UInt8} (h:X6 w v l) (hl:0<l.length):∃ g off cap,v = .slice (some ⟨g,off,none⟩) l.length cap∧l.length≤cap∧cap≤maxLen ∧
  ∀ (j:Nat) (_:j<l.length),w.cell? ⟨g,off+j,none⟩=some (.int .u8 (at8 l j:Int)):=by
 obtain ⟨g,off,cap,h1,h2,h3,h4⟩:=BQ h hl;exact ⟨g,off,cap,h1,h2,h3,fun j hj=>by rw [h4 j hj,cf hj]⟩
theorem Hx (k n:Nat) (hn:n<256) (hk:2 ^ k<256):bits .and .u8 (n:Int) ((2 ^ k:Nat):Int)=((n / 2 ^ k % 2*2 ^ k:Nat):Int):=by
 rw [u8_and_nat n (2 ^ k) hn hk,nat_bit]
theorem nC (n:Nat) (hn:n<256):bits .and .u8 (n:Int) 16=((n / 16 % 2*16:Nat):Int):=Hx 4 n hn Zd
theorem bZ (n:Nat) (hn:n<256):bits .and .u8 (n:Int) 32=((n / 32 % 2*32:Nat):Int):=Hx 5 n hn Zd
theorem b_ (n:Nat) (hn:n<256):bits .and .u8 (n:Int) 64=((n / 64 % 2*64:Nat):Int):=Hx 6 n hn Zd
theorem uq (n:Nat) (hn:n<256):bits .and .u8 (n:Int) 128=((n / 128 % 2*128:Nat):Int):=Hx 7 n hn Zd
theorem nB (n:Nat) (hn:n<256):bits .and .u8 (n:Int) 15=((n % 16:Nat):Int):=by
 rw [show (15:Int)=((15:Nat):Int) from rfl,u8_and_nat n 15 hn Zd,nat_mask4]
theorem BP (n:Nat) (hn:n<256):bits .and .u8 (n:Int) 31=((n % 32:Nat):Int):=by
 rw [show (31:Int)=((31:Nat):Int) from rfl,u8_and_nat n 31 hn Zd,nat_mask5]
theorem jw (n:Nat) (hn:n<256):bits .and .u8 (n:Int) 127=((n % 128:Nat):Int):=by
 rw [show (127:Int)=((127:Nat):Int) from rfl,u8_and_nat n 127 hn Zd,nat_mask7]
theorem and_3 (n:Nat) (hn:n<256):bits .and .u8 (n:Int) 3=((n % 4:Nat):Int):=by
 rw [show (3:Int)=((3:Nat):Int) from rfl,u8_and_nat n 3 hn Zd,nat_mask2]
theorem U5 (b:List UInt8) (p q:Int) (k:Nat) (hk:q.toNat≤k):get b p q<256 ^ k:=by
 unfold get;split
 ·refine OS (DT _) (Nat.pow_le_pow_right Zd ?_);rw [S4];omega
 ·exact Nat.pow_pos Zd
theorem Ca (n:Nat) (w:World) (hn:n<256) :
  Calls Tryz.prog 173 #[.int .u8 (n:Int)] w fun e w'=>e = .returned (.bool (decide (192≤n∧n≤223)))∧w=w':=by
 by_cases h1:192≤n
 ·have HF:Hid (decide (192≤n∧n≤223)=decide ((n:Int)≤223)):=decide_eq_decide.2 Zo;have d1:decide ((192:Int)≤(n:Int))=true:=Wi Zo;rw [HF.o];clear HF;go_enter Tryz.func173,Tryz.ntmps173;go_wp2;go_ret;exact ⟨rfl,rfl⟩
 ·have HF:Hid (decide (192≤n∧n≤223)=false):=WI Zo;have d1:decide ((192:Int)≤(n:Int))=false:=WI Zo;rw [HF.o];clear HF;go_enter Tryz.func173,Tryz.ntmps173;go_wp2;go_ret;exact ⟨rfl,rfl⟩
theorem wZ (v:Value) (b:List UInt8) (p q:Int) (w:World) (hv:X6 w v b) :
  Calls Tryz.prog 153 #[v,.int .i64 p,.int .i64 q] w fun e w'=>e = .returned (.int .u64 (get b p q:Nat))∧w=w':=by
 have CG:=Zh (N8 v b p q w hv);clear hv;go_enter Tryz.func153,Tryz.ntmps153;go_wp2_with (go_at_call 155;refine CG.o.mono ?_;rintro e w' ⟨rfl,rfl⟩)
 go_ret;exact ⟨rfl,rfl⟩
theorem Fb (v:Value) (b:List UInt8) (p:Nat) (w:World) (hv:X6 w v b) (hb:0<b.length) (hp:p≤1000) :
  Calls Tryz.prog 174 #[v,.int .i64 p] w fun e w'=>e = .returned (.tuple (Q5 ((Vq b p).1.1:Nat) ((Vq b p).1.2:Nat) (Vq b p).2))∧w=w':=by
 have hlen:=hv.len;have CG:=Zh (N8 v b ((p:Int)+2) 2 w hv);obtain ⟨g,off,cap,rfl,_,_,hc⟩:=RR hv hb;have d0:=hc 0 hb;have d0':w.cell? ⟨g,off,none⟩=some (.int .u8 (at8 b 0:Int)):=d0;have hx:=Xl b 0;have ha:=nC (at8 b 0) hx;have HE:Hid (Vq b p=if at8 b 0 / 16 % 2=0 then ((p,p),decide (p≤b.length)) else ((p+4,p+4+4*get b ((p:Int)+2) 2),within b.length ((p:Int)+2) 2 && decide (p+4+4*get b ((p:Int)+2) 2≤b.length))):=rfl;have hn:=U5 b ((p:Int)+2) 2 2 Zd;have hn:get b ((p:Int)+2) 2<65536:=hn;generalize Vq b p=X at *
 generalize get b ((p:Int)+2) 2=n at *
 clear hc hv;by_cases h0:at8 b 0 / 16 % 2=0
 ·have HF:Hid (X=((p,p),decide (p≤b.length))):=by show _=_;rw [HE.o,ZR h0]
  rw [h0] at ha;rw [HF.o];dsimp only at ha ⊢;clear HE HF h0 CG;generalize at8 b 0=x at *
  go_enter Tryz.func174,Tryz.ntmps174;go_wp2
  go_ret3
  exact ⟨rfl,rfl⟩
 ·have h1:at8 b 0 / 16 % 2=1:=by omega
  have HF:Hid (X=((p+4,p+4+4*n),within b.length ((p:Int)+2) 2 && decide ((p:Int)+4+4*(n:Int)≤(b.length:Int)))):=by
   show _=_;rw [HE.o,Z4 h0];congr 2;exact decide_eq_decide.2 Zo
  rw [h1] at ha;rw [HF.o];dsimp only at ha ⊢;clear HE HF h0 h1;generalize at8 b 0=x at *
  cases hw:within b.length ((p:Int)+2) 2
  all_goals
   rw [hw] at CG;clear hw;go_enter Tryz.func174,Tryz.ntmps174;go_wp2_with (go_at_call 155;refine CG.o.mono ?_;rintro e w' ⟨rfl,rfl⟩)
   go_ret3
   exact ⟨rfl,rfl⟩
theorem Ax (v u:Value) (b r:List UInt8) (w:World) (hv:X6 w v b) (hu:X6 w u r) (hb:0<b.length) :
  Calls Tryz.prog 175 #[v,u] w fun e w'=>e = .returned (.tuple (Q9 ((R3 b r).1:Nat) (R3 b r).2))∧w=w':=by
 have hlen:=hv.len;have Np:=hu.len;obtain ⟨g,off,cap,rfl,_,_,hc⟩:=RR hv hb;have d0:w.cell? ⟨g,off,none⟩=some (.int .u8 (at8 b 0:Int)):=hc 0 hb;have hx:=Xl b 0;have ha:=bZ (at8 b 0) hx;have HE:Hid (R3 b r=if at8 b 0 / 32 % 2=0 then (0,true) else if r.length=0 then (0,false) else if at8 r (r.length-1)=0∨r.length<at8 r (r.length-1) then (0,false) else if ((r.drop (r.length-at8 r (r.length-1))).take (at8 r (r.length-1)-1)).all (fun x=>decide (x=0)) then (at8 r (r.length-1),true) else (0,false)):=rfl;obtain ⟨ua,uc,rfl,huc,-⟩:=id hu;have HU:=Zh hu;clear hc hv hu;generalize R3 b r=X at *
 by_cases h0:at8 b 0 / 32 % 2=0
 ·have HF:Hid (X=(0,true)):=by show _=_;rw [HE.o,ZR h0]
  rw [h0] at ha;rw [HF.o];clear HE HF h0;generalize at8 b 0=x at *
  go_enter Tryz.func175,Tryz.ntmps175;go_wp2
  go_ret2
  exact ⟨rfl,rfl⟩
 ·have h1:at8 b 0 / 32 % 2=1:=by omega
  have E1:Hid (X=if r.length=0 then (0,false) else if at8 r (r.length-1)=0∨r.length<at8 r (r.length-1) then (0,false) else if ((r.drop (r.length-at8 r (r.length-1))).take (at8 r (r.length-1)-1)).all (fun x=>decide (x=0)) then (at8 r (r.length-1),true) else (0,false)):=by show _=_;rw [HE.o,Z4 h0]
  rw [h1] at ha;clear HE h0 h1;generalize at8 b 0=x at *
  by_cases hr:r.length=0
  ·have HF:Hid (X=(0,false)):=by show _=_;rw [E1.o,ZR hr]
   rw [HF.o];rw [hr];clear E1 HF HU;go_enter Tryz.func175,Tryz.ntmps175;go_wp2
   go_ret2
   exact ⟨rfl,rfl⟩
  ·obtain ⟨m,hm⟩:∃ m,r.length=m+1:=⟨r.length-1,Zo⟩;obtain ⟨g2,Au,cap2,e1,_,_,Bg⟩:=RR HU.o Zo;cases e1;have dl:=Bg m Zo
   have aR:Hid (X=if at8 r m=0∨r.length<at8 r m then (0,false) else if ((r.drop (r.length-at8 r m)).take (at8 r m-1)).all (fun x=>decide (x=0)) then (at8 r m,true) else (0,false)):=by
    show _=_;rw [E1.o,Z4 hr,show r.length-1=m by omega]
   have hk:=Xl r m;have HC:=Zh Bg;have hrl:((r.length:Nat):Int)=(m:Int)+1:=by omega
   have lG:IntKind.i64.wrap ((m:Int)+1-1)=(m:Int):=by rw [show (m:Int)+1-1=(m:Int) by omega];exact Tm _ Zo
   clear E1 hr Bg;generalize gM:at8 r m=k at *
   by_cases YY:k=0∨r.length<k
   ·have HF:Hid (X=(0,false)):=by show _=_;rw [aR.o,ZR YY]
    rw [HF.o];clear aR HF HU;rcases YY with rfl|YY
    all_goals
     go_enter Tryz.func175,Tryz.ntmps175;go_wp2
     go_ret2
     exact ⟨rfl,rfl⟩
   ·have wF:1≤k:=by omega
    have Ee:k≤r.length:=by omega
    have HU2:XR w (.slice (some ⟨g2,Au,none⟩) (m+1) uc) (m+1) (RD r):=by rw [←hm];exact HU.o
    obtain ⟨a',Uw,ZY⟩:=Wk VF (some ⟨g2,Au,none⟩) (m+1) uc (m+1-k) m Zo Zo Zo;have ZY:=ZY w (RD r) (by rw [Xh];omega) HU2;have e1:m-(m+1-k)=k-1:=by omega
    have e2:((m+1-k:Nat):Int)=(m:Int)+1-(k:Int):=by omega
    rw [Nat.mul_one,Nat.mul_one,e1,QN,OX] at ZY;rw [e1,e2] at Uw;have af:((r.drop (m+1-k)).take (k-1)).length=k-1:=by rw [S4,Rg];omega
    have HF:Hid (X=if ((r.drop (m+1-k)).take (k-1)).all (fun x=>decide (x=0)) then (k,true) else (0,false)):=by show _=_;rw [aR.o,Z4 YY,hm]
    have hkI:(1:Int)≤(k:Int):=by omega
    have hkI2:(k:Int)≤(m:Int)+1:=by omega
    have U':=Zh ZY;have c1:decide ((m:Int)+1<(k:Int))=false:=WI Zo;have c0:((k:Int) == 0)=false:=by rw [WR];omega
    have MJ:m+1≤9223372036854775807:=by omega
    rw [hm];clear aR YY ZY e1 e2 HC HU HU2 hrl lG Np huc Ee gM;generalize (r.drop (m+1-k)).take (k-1)=s at *
    rw [←af] at Uw U';have hkm:k=s.length+1:=by omega
    have HKM:=Zh hkm;have hsb:s.length≤255:=by omega
    clear af hkm hm;go_enter Tryz.func175,Tryz.ntmps175;go_wp2
    go_loop [42] (fun i=>∃ j:Nat,j≤s.length∧i = .int .i64 j∧Hid ((s.take j).all (fun x=>decide (x=0))=true)) (fun i=>s.length-(intOf i).toNat)
    case atStart=>exact ⟨0,Tk _,rfl,rfl⟩
    case round=>
     obtain ⟨j,hj,rfl,UO⟩:=hrel;by_cases hjs:j<s.length
     ·obtain ⟨g3,off3,cap3,e3,_,_,lu⟩:=BQ (l:=s) U'.o Zo;cases e3;have d:=lu j hjs
      have qW:Hid ((s.take (j+1)).all (fun x=>decide (x=0))=decide (s[j]=0)):=by
       show _=_;rw [List.take_succ_eq_append_getElem hjs,List.all_append,UO.o];simp
      have qT:Hid (s[j]≠0→s.all (fun x=>decide (x=0))=false):=fun h=>by
       rw [List.all_eq_false];exact ⟨s[j],PA hjs,by simpa using h⟩
      clear lu;generalize s[j]=x at *
      by_cases QI:x=0
      ·have qw:Hid ((s.take (j+1)).all (fun x=>decide (x=0))=true):=by show _=_;rw [qW.o,QI];rfl
       have hz:(x.toNat:Int)=0:=by rw [QI];rfl
       rw [hz] at d;clear hz QI qW qT UO HF;go_wp2
       go_round
       case rel=>exact ⟨j+1,Zo,Zn,qw⟩
       case measure=>simp [intOf];omega
      ·have hq:((x.toNat:Int) != 0)=true:=by
        rw [RQ];intro e;exact QI (UInt8.toNat_inj.1 (by simpa using e))
       have HX:Hid (X=(0,false)):=by show _=_;rw [HF.o,qT.o QI];rfl
       clear HF qT qW QI UO;go_wp2
       go_ret2
       exact ⟨by rw [HX.o];rfl,rfl⟩
     ·obtain rfl:j=s.length:=by omega
      have HX:Hid (X=(k,true)):=by
       show _=_;have:=UO.o;rw [FL Zo] at this;rw [HF.o,this];rfl
      clear HF UO;go_wp2
      go_ret2
      exact ⟨by rw [HX.o];rfl,rfl⟩
theorem jH (b:List UInt8) (p:Nat):(Vq b p).1.1≤p+4∧(Vq b p).1.2≤p+4+4*65535:=by
 have h:=U5 b ((p:Int)+2) 2 2 Zd;have h:get b ((p:Int)+2) 2<65536:=h;unfold Vq;split
 ·exact ⟨by show p≤_;omega,by show p≤_;omega⟩
 ·exact ⟨by show p+4≤_;omega,by show p+4+4*get b ((p:Int)+2) 2≤_;omega⟩
theorem jI {b:List UInt8} {p:Nat} (h:(Vq b p).2=true):(Vq b p).1.2≤b.length∧(Vq b p).1.1≤(Vq b p).1.2:=by
 unfold Vq at h ⊢;split
 ·rename_i h0
  rw [ZR h0] at h;exact ⟨of_decide_eq_true h,Zw _⟩
 ·rename_i h0
  rw [Z4 h0,UR] at h;exact ⟨of_decide_eq_true h.2,by show p+4≤p+4+_;omega⟩
theorem kM {b r:List UInt8} (h:(R3 b r).2=true):(R3 b r).1≤r.length:=by
 unfold R3 at h ⊢;by_cases h0:at8 b 0 / 32 % 2=0
 ·rw [ZR h0];exact Tk _
 rw [Z4 h0] at h ⊢;by_cases h1:r.length=0
 ·rw [ZR h1] at h;cases h
 rw [Z4 h1] at h ⊢;dsimp only at h ⊢;by_cases h2:at8 r (r.length-1)=0∨r.length<at8 r (r.length-1)
 ·rw [ZR h2] at h;cases h
 rw [Z4 h2] at h ⊢;split
 ·show at8 r (r.length-1)≤_;omega
 ·exact Tk _
theorem Ao (v:Value) (b:List UInt8) (w:World) (hv:X6 w v b) :
  Calls Tryz.prog 152 #[v] w fun e w'=>e = .returned (.tuple (Qo (Qn ((looks b).1.1:Nat) ((looks b).1.2.1:Nat) ((looks b).1.2.2:Nat)) (looks b).2))∧Below w w w':=by
 have hlen:=hv.len;have HV:Hid (∀ w',Below w w w'→X6 w' v b):=fun w' h=>hv.below h
 have HE:Hid (looks b=if 512<b.length then ((0,0,0),5) else if b.length<12 then ((0,0,0),2) else if at8 b 0 / 64≠2 then ((0,0,0),1) else if 192≤at8 b 1∧at8 b 1≤223 then ((0,0,0),4) else if (Vq b (12+4*(at8 b 0 % 16))).2=false then ((0,0,0),2) else if (R3 b (b.drop (Vq b (12+4*(at8 b 0 % 16))).1.2)).2=false then ((0,0,0),1) else (((Vq b (12+4*(at8 b 0 % 16))).1.1,(Vq b (12+4*(at8 b 0 % 16))).1.2,b.length-(R3 b (b.drop (Vq b (12+4*(at8 b 0 % 16))).1.2)).1),0)):=rfl;obtain ⟨a,c,rfl,R4,-⟩:=id hv;clear hv;generalize looks b=X at *
 by_cases h1:512<b.length
 ·obtain rfl:X=((0,0,0),5):=by rw [HE.o,ZR h1]
  clear HE HV;go_enter Tryz.func152,Tryz.ntmps152;go_wp2;exact VD (v:= .tuple (Qo (Qn 0 0 0) 5)) (by simp [results,Tryz.results152,go_sem]) rfl ⟨rfl,Z' _ _⟩
 by_cases h2:b.length<12
 ·obtain rfl:X=((0,0,0),2):=by rw [HE.o,Z4 h1,ZR h2]
  clear HE HV;go_enter Tryz.func152,Tryz.ntmps152;go_wp2;exact fT
 have QI:=Xl b 0;have SJ:=Xl b 1;have Uk:=Z' w (.cells (Qn 0 0 0) 238);have Ir:=Zh (HV.o _ Uk);obtain ⟨g,off,cap,e1,_,_,hc⟩:=RR (HV.o w (YJ _ _)) Zo;cases e1;obtain ⟨_,_,_,e2,_,_,cM⟩:=RR Ir.o Zo;cases e2;have d0:(w.alloc (.cells (Qn 0 0 0) 238)).cell? ⟨g,off,none⟩=some (.int .u8 (at8 b 0:Int)):=cM 0 Zo;have d1:=cM 1 Zo;have Sy:=Zh Uk;clear hc cM Uk;have l1:decide ((512:Int)<(b.length:Int))=false:=WI Zo;have l2:decide ((b.length:Int)<12)=false:=WI Zo;by_cases h3:at8 b 0 / 64≠2
 ·obtain rfl:X=((0,0,0),1):=by rw [HE.o,Z4 h1,Z4 h2,ZR h3]
  have q:(((at8 b 0:Nat):Int) / 64 != 2)=true:=by rw [RQ];omega
  clear HE HV h3;go_enter Tryz.func152,Tryz.ntmps152;go_wp2;exact fU
 have q3:(((at8 b 0:Nat):Int) / 64 != 2)=false:=by rw [bne_eq_false_iff_eq];omega
 have CF:=Ca (at8 b 1) (w.alloc (.cells (Qn 0 0 0) 238)) SJ;by_cases h4:192≤at8 b 1∧at8 b 1≤223
 ·obtain rfl:X=((0,0,0),4):=by rw [HE.o,Z4 h1,Z4 h2,Z4 h3,ZR h4]
  rw [Wi h4] at CF;have HCF:=Zh CF;clear HE HV h3 h4 CF;go_enter Tryz.func152,Tryz.ntmps152;go_wp2_with (go_at_call 173;refine HCF.o.mono ?_;rintro e w' ⟨rfl,rfl⟩)
  exact VD (v:= .tuple (Qo (Qn 0 0 0) 4)) (by simp [results,Tryz.results152,go_sem]) rfl ⟨rfl,Z' _ _⟩
 rw [WI h4] at CF;have HCF:=Zh CF;have ha:=nB (at8 b 0) QI;have hk16:at8 b 0 % 16<16:=by omega
 have iB:Hid (X=if (Vq b (12+4*(at8 b 0 % 16))).2=false then ((0,0,0),2) else if (R3 b (b.drop (Vq b (12+4*(at8 b 0 % 16))).1.2)).2=false then ((0,0,0),1) else (((Vq b (12+4*(at8 b 0 % 16))).1.1,(Vq b (12+4*(at8 b 0 % 16))).1.2,b.length-(R3 b (b.drop (Vq b (12+4*(at8 b 0 % 16))).1.2)).1),0)):=by
  show _=_;rw [HE.o,Z4 h1,Z4 h2,Z4 h3,Z4 h4]
 have CE:=Fb _ b (12+4*(at8 b 0 % 16)) _ Ir.o Zo Zo;have hle:=jH b (12+4*(at8 b 0 % 16));have PJ:Hid ((Vq b (12+4*(at8 b 0 % 16))).2=true→(Vq b (12+4*(at8 b 0 % 16))).1.2≤b.length∧(Vq b (12+4*(at8 b 0 % 16))).1.1≤(Vq b (12+4*(at8 b 0 % 16))).1.2):=jI;rw [show ((12+4*(at8 b 0 % 16):Nat):Int)=12+4*((at8 b 0 % 16:Nat):Int) by omega] at CE;clear HE h3 h4 CF;generalize Vq b (12+4*(at8 b 0 % 16))=E at *
 generalize at8 b 0 % 16=k at *
 obtain ⟨⟨xe,xf⟩,xo⟩:=E;dsimp only at *
 have HCE:=Zh CE;clear CE;cases xo
 ·obtain rfl:X=((0,0,0),2):=by rw [iB.o,ZR rfl]
  clear iB HV PJ;go_enter Tryz.func152,Tryz.ntmps152;go_wp2_with (first|(go_at_call 173;refine HCF.o.mono ?_;rintro e w' ⟨rfl,rfl⟩)|(go_at_call 174;refine HCE.o.mono ?_;rintro e w' ⟨rfl,rfl⟩))
  exact fT
 obtain ⟨cR,wu⟩:=PJ.o rfl;obtain ⟨a',Uw,-,ZY⟩:=SP VF (some ⟨g,off,none⟩) b.length c xf cR R4;have ZY:=ZY _ (RD b) (by rw [Xh];omega) Ir.o;rw [Nat.mul_one,QN] at ZY;have uG:(b.drop xf).length=b.length-xf:=Rg;rw [←uG] at ZY Uw;have CP:=Ax _ _ b (b.drop xf) _ Ir.o ZY Zo;have vB:Hid ((R3 b (b.drop xf)).2=true→(R3 b (b.drop xf)).1≤(b.drop xf).length):=kM;have HE6:Hid (X=if (R3 b (b.drop xf)).2=false then ((0,0,0),1) else ((xe,xf,b.length-(R3 b (b.drop xf)).1),0)):=by show _=_;rw [iB.o,Z4 Zd]
 have HCP:=Zh CP;have hdl2:(b.drop xf).length≤b.length:=by omega
 clear iB PJ ZY CP uG;generalize R3 b (b.drop xf)=Y at *
 generalize (b.drop xf).length=dl at *
 obtain ⟨yn,yo⟩:=Y;dsimp only at *
 cases yo
 ·obtain rfl:X=((0,0,0),1):=by rw [HE6.o,ZR rfl]
  clear HE6 HV vB;go_enter Tryz.func152,Tryz.ntmps152;go_wp2_with (first|(go_at_call 173;refine HCF.o.mono ?_;rintro e w' ⟨rfl,rfl⟩)|(go_at_call 174;refine HCE.o.mono ?_;rintro e w' ⟨rfl,rfl⟩)|(go_at_call 175;refine HCP.o.mono ?_;rintro e w' ⟨rfl,rfl⟩))
  exact fU
 have hyl:=vB.o rfl;obtain rfl:X=((xe,xf,b.length-yn),0):=by rw [HE6.o,Z4 Zd]
 dsimp only;rw [show ((b.length-yn:Nat):Int)=(b.length:Int)-(yn:Int) by omega];have hyn:(yn:Int)≤(b.length:Int):=by omega
 clear HE6 HV vB;go_enter Tryz.func152,Tryz.ntmps152;go_wp2_with (first|(go_at_call 173;refine HCF.o.mono ?_;rintro e w' ⟨rfl,rfl⟩)|(go_at_call 174;refine HCE.o.mono ?_;rintro e w' ⟨rfl,rfl⟩)|(go_at_call 175;refine HCP.o.mono ?_;rintro e w' ⟨rfl,rfl⟩))
 exact VD (v:= .tuple (Qo (Qn xe xf ((b.length:Int)-(yn:Int))) 0)) (by simp [results,Tryz.results152,go_sem]) rfl ⟨rfl,Z' _ _⟩
end Go.Proofs.By
