/- Part of a proof. -/
import Derived.Test.YtpdjhlcbcomdkaaGreatDoorChecked
import Derived.Test.YtpdjhlcbcomdkaaGreatDoorR05
set_option linter.unusedVariables false
set_option linter.unusedSimpArgs false
set_option maxRecDepth 100000
set_option maxHeartbeats 16000000
open Go Go.Q
namespace Go.Proofs.Mem
open Go.RowKit Go.Lib
def str (l:List UInt8):ByteArray:=⟨l.toArray⟩
theorem Nz (l:List UInt8):(str l).size=l.length:=by simp [str,ByteArray.size]
theorem eF (s:ByteArray):str s.data.toList=s:=by cases s;rfl
theorem foldl_push (ns:List UInt8):∀ s:ByteArray,(ns.map fun b=>((b.toNat:Nat):Int)).foldl (fun r n=>r.push (UInt8.ofNat n.toNat)) s=⟨(s.data.toList++ns).toArray⟩:=by
 induction ns with
 | nil=>intro s;simp
 | cons b t ih=>
  intro s;rw [List.map_cons,List.foldl_cons,ih]
  congr 1
  simp [ByteArray.push]
def MM (w:World) (b off:Nat) (m:List UInt8):Prop:=
 ∀ j,j<m.length→w.cell? ⟨b,off+j,none⟩=some (.int .u8 (m.getD j 0).toNat)∧w.frozen? ⟨b,off+j,none⟩=false
theorem FA {P:Program} {w:World} {b off c:Nat} {m:List UInt8} (src dst e:TypeId) (h:MM w b off m)
  (hs:P.underlying src=some (.slice e)) (he:P.underlying e=some (.int .u8)) (hd:P.underlying dst=some .string) :
  (convert src dst (.slice (some ⟨b,off,none⟩) m.length c)).run P w = .ok (.string (str m)) w:=by
 rw [run_convert_bytes_string w src dst e _ _ _ hs he hd]
 have hl:(loadCells ⟨b,off,none⟩ m.length).run P w = .ok ((m.map fun b=>((b.toNat:Nat):Int)).map (Value.int .u8)).toArray w:=by
  have:=run_loadCells_list (P:=P) (w:=w) ⟨b,off,none⟩ ((m.map fun b=>((b.toNat:Nat):Int)).map (Value.int .u8)) (by
   intro j v hv
   have hj:j<m.length:=by
    have:=(List.getElem?_eq_some_iff.1 hv).1;simpa using this
   have:=(h j hj).1;simp only [List.getElem?_map,Vb hj,Option.map_some] at hv;rw [SC,Vb hj] at this;cases hv;unfold Addr.add;by_cases h0:j=0
   ·subst h0;simpa using this
   ·rw [Z4 h0];exact this)
  simpa using this
 rw [run_bytesToString w _ _ _ _ hl,foldl_push];rfl
theorem kP {w:World} {b off:Nat} {m:List UInt8} (h:MM w b off m) {i:Nat} (x:UInt8) :
  MM (w.setCell ⟨b,off+i,none⟩ (.int .u8 x.toNat)) b off (m.set i x):=by
 intro j hj;rw [List.length_set] at hj;obtain ⟨h1,h2⟩:=h j hj;by_cases cW:i=j
 ·subst cW;refine ⟨?_,by rw [World.frozen?_setCell];exact h2⟩;rw [SC,List.getElem?_set_self hj,qC _ _ _ h1];rfl
 ·refine ⟨?_,by rw [World.frozen?_setCell];exact h2⟩;rw [SC,List.getElem?_set_ne cW,World.cell?_setCell_other _ _ _ _ (by intro e;injection e;omega),h1,SC]
theorem Lr (w:World) (e:TypeId) (s:ByteArray):MM (bytesWorld w e s) w.heap.size 0 s.data.toList:=by
 intro j hj;rw [QD];rw [←Lib.size_eq] at hj;refine ⟨bytesWorld_cell w e s j hj,?_⟩;simp only [World.frozen?,bytesWorld_at_new,bytesCells];simp;intro h;have:s.data.size=s.size:=rfl;omega
theorem zu (w:World) (e:TypeId) (s:ByteArray):Below w w (bytesWorld w e s):=
 ⟨rfl,rfl,rfl,by rw [bytesWorld_size];omega,fun k hk=>bytesWorld_at_old w e s k hk⟩
end Go.Proofs.Mem
namespace Go.Proofs.vH
open Go
section
variable {P:Program}
theorem FB (w:World) (g off:Nat) (ty:TypeId) (cs:Array Value) (d:TypeDesc) (hc:∀ j,j<cs.size→w.cell? ⟨g,off+j,none⟩=cs[j]?)
  (hu:P.underlying ty=some d) (hd:(match d with | .struct _ | .array _ _=>true|_=>false)=true) (hi:(P.info? ty).map (·.size)=some cs.size) :
  (loadVar ty ⟨g,off,none⟩).run P w = .ok (.agg cs) w:=by
 have hl:(loadCells ⟨g,off,none⟩ cs.toList.length).run P w = .ok cs.toList.toArray w:=
  run_loadCells_list (P:=P) w ⟨g,off,none⟩ cs.toList (fun j v hv=>by
   have hj:j<cs.size:=by
    have:=(List.getElem?_eq_some_iff.1 hv).1;simpa using this
   have Nk:(⟨g,off,none⟩:Addr).add j=⟨g,off+j,none⟩:=by unfold Addr.add;split <;> simp_all
   rw [Nk,hc j hj]
   simpa using hv)
 cases hq:P.info? ty with
 | none=>simp [hq] at hi
 | some i=>
  have hs:i.size=cs.size:=by simpa [hq] using hi
  have jY:(isAgg ty).run P w = .ok true w:=by
   unfold isAgg;rw [Sem.run_bind,run_underlying hu w];cases d <;> simp_all
  simp only [Array.length_toList,Array.toArray_toList] at hl;simp [loadVar,Sem.run_bind,jY,sizeOf,typeInfo,hq,hs,hl]
theorem Du {o:Oper} {a:Act} {w:World} {K:Act→World→Prop} {Q:Exit→Act→World→Prop} (ty:TypeId) (x:Operand) (ho:o.op = .load ty x)
  (g off:Nat) (hx:a.eval x = .pointer (some ⟨g,off,none⟩)) (cs:Array Value) (d:TypeDesc) (hc:∀ j,j<cs.size→w.cell? ⟨g,off+j,none⟩=cs[j]?)
  (hu:P.underlying ty=some d) (hd:(match d with | .struct _ | .array _ _=>true|_=>false)=true) (hi:(P.info? ty).map (·.size)=some cs.size)
  (h:K (a.put o.dst (.agg cs)) w):o.wp P a w K Q:=by
 unfold Oper.wp execOp;simp only [ho,hx,Instr.loadAt,Instr.sureAddr,Sem.run_bind,Sem.run_pure,Result.andThen_ok,FB w g off ty cs d hc hu hd hi];exact h
theorem SV {ops:Array Oper} {rest:List Oper} {o:Oper} {a:Act} {w:World} {Q:Exit→Act→World→Prop} (Mb:o.guard=none) (ty:TypeId) (x:Operand) (ho:o.op = .load ty x)
  (g off:Nat) (hx:a.eval x = .pointer (some ⟨g,off,none⟩)) (cs:Array Value) (d:TypeDesc) (hc:∀ j,j<cs.size→w.cell? ⟨g,off+j,none⟩=cs[j]?)
  (hu:P.underlying ty=some d) (hd:(match d with | .struct _ | .array _ _=>true|_=>false)=true) (hi:(P.info? ty).map (·.size)=some cs.size)
  (h:wpList P ops Q rest (a.put o.dst (.agg cs)) w):wpList P ops Q (o :: rest) a w:=
 wpList_plain Mb fun _ hK=>Du ty x ho g off hx cs d hc hu hd hi (hK _ _ h)
theorem MC (w:World) (t e:TypeId) (n:Nat) (cs:Array Value) (i sz:Nat) (d:TypeDesc) (h:P.underlying t=some (.array n e)) (hi:i<n)
  (hu:P.underlying e=some d) (hd:(match d with | .struct _ | .array _ _=>true|_=>false)=true) (hs:(P.info? e).map (·.size)=some sz) (ys:Array Value) (hy:cs.extract (i*sz) (i*sz+sz)=ys) :
  (Instr.index t (.agg cs) (.int .i64 (i:Int))).run P w = .ok (.agg ys) w:=by
 cases hq:P.info? e with
 | none=>simp [hq] at hs
 | some q=>
  have hH:q.size=sz:=by simpa [hq] using hs
  have jY:(isAgg e).run P w = .ok true w:=by
   unfold isAgg;rw [Sem.run_bind,run_underlying hu w];cases d <;> simp_all
  exact fV
theorem Hc (w:World) (t e:TypeId) (n:Nat) (cs:Array Value) (i:Nat) (d:TypeDesc) (h:P.underlying t=some (.array n e)) (hi:i<n)
  (hu:P.underlying e=some d) (hd:(match d with | .struct _ | .array _ _=>true|_=>false)=false) (hs:(P.info? e).map (·.size)=some 1) (y:Value) (hy:cs[i]?=some y) :
  (Instr.index t (.agg cs) (.int .i64 (i:Int))).run P w = .ok y w:=by
 cases hq:P.info? e with
 | none=>simp [hq] at hs
 | some q=>
  have hH:q.size=1:=by simpa [hq] using hs
  have jY:(isAgg e).run P w = .ok false w:=by
   unfold isAgg;rw [Sem.run_bind,run_underlying hu w];cases d <;> simp_all
  exact fV
end
end Go.Proofs.vH
namespace Go.Proofs.Rm
open Go.RowKit Go.Proofs.Heap Go.Proofs.Mem
def M9 (s:Src) (i:Nat):Value:=
 if i=0 then .bool s.there else if i=1 then .int .i64 s.num else if i=2 then .int .i64 s.own else if i=3 then s.sv else .bool s.ZE
def Th (x:Sub) (i:Nat):Value:=
 if i=0 then .bool x.there else if i=1 then .bool x.ZQ else .int .i64 x.want
def WO (R:Room) (j:Nat):Value:=
 if j<9 then .string (str (R.names j)) else if j<54 then M9 (R.src ((j-9) / 5)) ((j-9) % 5)
 else Th (R.sub ((j-54) / 27) ((j-54) % 27 / 3)) ((j-54) % 3)
def YO (l:List Int):List Value:=l.map (Value.int .u32)
structure ZT (w:World) (b:Nat) (R:Room):Prop where
 cells:∃ c,w.heap[b]?=some (.cells c 152)∧c.size=297∧∀ j,j<297→c[j]?=some (WO R j)
 rows:∀ n,n<9→Row w 66 (R.src n).sv (R.src n).ss.length (YO (R.src n).ss)
theorem ZT.lt {w:World} {b:Nat} {R:Room} (h:ZT w b R):b<w.heap.size:=by
 obtain ⟨c,hc,_⟩:=h.cells;rcases Nat.lt_or_ge b w.heap.size with h|h
 ·exact h
 ·rw [E7 h] at hc;cases hc
theorem ZT.cell {w:World} {b:Nat} {R:Room} (h:ZT w b R) {j:Nat} (hj:j<297):w.cell? ⟨b,j,none⟩=some (WO R j):=by
 obtain ⟨c,hc,_,UO⟩:=h.cells;simp only [World.cell?,hc];exact UO j hj
theorem ZT.Yz {w:World} {b:Nat} {R:Room} (h:ZT w b R) (j:Nat):w.frozen? ⟨b,j,none⟩=false:=by
 obtain ⟨c,hc,_,_⟩:=h.cells;simp [World.frozen?,hc]
theorem ZT.fr {B:Nat} {S:Nat→Prop} {w w':World} {b:Nat} {R:Room} (h:ZT w b R) (hf:Fr B S w w') (hB:w.heap.size≤B) (hb:¬S b) (hS:∀ k c fr,S k→w.heap[k]?≠some (.cells c 66 fr)):ZT w' b R:=by
 have PV:=h.lt;obtain ⟨c,hc,hs,UO⟩:=h.cells;exact ⟨⟨c,by rw [hf.block b Zo hb];exact hc,hs,UO⟩,fun n hn=>(h.rows n hn).fr hf hB hS⟩
theorem ZT.below {w w':World} {b:Nat} {R:Room} (h:ZT w b R) (hb:Below w w w'):ZT w' b R:=
 h.fr (Fr.Z7 PN hb) (Zw _) (fun x=>x) (fun _ _ _ h=>h.elim)
theorem ZT.other {w:World} {b:Nat} {R:Room} (h:ZT w b R):∀ k c fr,k=b→w.heap[k]?≠some (.cells c 66 fr):=by
 intro k c fr hk e;subst hk;obtain ⟨c',hc,_,_⟩:=h.cells;rw [hc] at e;injection e with e
 injection e with _ e _
 exact absurd e Zd
theorem ZT.set {w:World} {b:Nat} {R R':Room} (h:ZT w b R) {i:Nat} {v:Value} (hi:i<297) (hv:∀ j,j<297→WO R' j=if j=i then v else WO R j)
  (hr:∀ n,n<9→Row w 66 (R'.src n).sv (R'.src n).ss.length (YO (R'.src n).ss)):ZT (w.setCell ⟨b,i,none⟩ v) b R':=by
 have ho:=h.other;obtain ⟨c,hc,hs,UO⟩:=h.cells;refine ⟨⟨c.setIfInBounds i v,?_,by rw [Array.size_setIfInBounds];exact hs,fun j hj=>?_⟩,fun n hn=>?_⟩
 ·simp [World.setCell,Array.getElem?_modify,hc]
 ·rw [hv j hj,Array.getElem?_setIfInBounds];by_cases cW:i=j
  ·subst cW;rw [ZR rfl,ZR rfl,ZR Zo]
  ·rw [Z4 cW,Z4 (fun e=>cW e.symm)];exact UO j hj
 ·exact (hr n hn).fr ((Fr.refl w.heap.size (· = b) w).setCell (Wh rfl) v) (Zw _) ho
theorem xu (R:Room) {n p i:Nat} (hn:n<9) (hp:p<9) (hi:i<3):WO R (54+n*27+p*3+i)=Th (R.sub n p) i:=by
 unfold WO;rw [Z4 Zo,Z4 Zo,show (54+n*27+p*3+i-54) / 27=n by omega,show (54+n*27+p*3+i-54) % 27 / 3=p by omega,show (54+n*27+p*3+i-54) % 3=i by omega]
theorem Kn (R:Room) {n i:Nat} (hn:n<9) (hi:i<5):WO R (9+n*5+i)=M9 (R.src n) i:=by
 unfold WO;rw [Z4 Zo,ZR Zo,show (9+n*5+i-9) / 5=n by omega,show (9+n*5+i-9) % 5=i by omega]
theorem ZT.Hi {w:World} {b:Nat} {R:Room} (h:ZT w b R) {n p:Nat} (hn:n<9) (hp:p<9) :
  w.cell? ⟨b,54+n*27+p*3,none⟩=some (.bool (R.sub n p).there)∧w.cell? ⟨b,54+n*27+p*3+1,none⟩=some (.bool (R.sub n p).ZQ)∧w.cell? ⟨b,54+n*27+p*3+2,none⟩=some (.int .i64 (R.sub n p).want):=
 ⟨by rw [h.cell Zo];exact congrArg some (xu R (i:=0) hn hp Zo),by rw [h.cell Zo,xu R hn hp Zo];rfl,by rw [h.cell Zo,xu R hn hp Zo];rfl⟩
theorem ZT.ML {w:World} {b:Nat} {R:Room} (h:ZT w b R) {n:Nat} (hn:n<9) :
  w.cell? ⟨b,9+n*5,none⟩=some (.bool (R.src n).there)∧w.cell? ⟨b,9+n*5+1,none⟩=some (.int .i64 (R.src n).num)∧w.cell? ⟨b,9+n*5+2,none⟩=some (.int .i64 (R.src n).own)∧w.cell? ⟨b,9+n*5+3,none⟩=some (R.src n).sv∧w.cell? ⟨b,9+n*5+4,none⟩=some (.bool (R.src n).ZE):=
 ⟨by rw [h.cell Zo];exact congrArg some (Kn R (i:=0) hn Zo),by rw [h.cell Zo,Kn R hn Zo];rfl,by rw [h.cell Zo,Kn R hn Zo];rfl,by rw [h.cell Zo,Kn R hn Zo];rfl,by rw [h.cell Zo,Kn R hn Zo];rfl⟩
theorem ZT.uW {w:World} {b:Nat} {R:Room} (h:ZT w b R) {p:Nat} (hp:p<9):w.cell? ⟨b,p,none⟩=some (.string (str (R.names p))):=by
 rw [h.cell Zo];unfold WO;rw [ZR hp]
theorem Wf (R:Room) (n p:Nat) (x:Sub):(R.ZP n p x).sub n p=x:=by simp [Room.ZP]
theorem MD (R:Room) (n p:Nat) (x y:Sub):(R.ZP n p x).ZP n p y=R.ZP n p y:=by
 unfold Room.ZP
 congr 1
 funext m q;dsimp only;split <;> rfl
theorem ZT.SN {w:World} {b:Nat} {R:Room} (h:ZT w b R) {n p i:Nat} (hn:n<9) (hp:p<9) (hi:i<3) {x:Sub} {v:Value} (hx:∀ j,j<3→Th x j=if j=i then v else Th (R.sub n p) j) :
  ZT (w.setCell ⟨b,54+n*27+p*3+i,none⟩ v) b (R.ZP n p x):=by
 refine h.set Zo (fun j hj=>?_) h.rows;by_cases h1:j<54
 ·unfold WO;rw [Z4 (by omega:¬j=54+n*27+p*3+i)];by_cases h2:j<9
  ·rw [ZR h2,ZR h2];rfl
  ·rw [Z4 h2,Z4 h2,ZR h1,ZR h1];rfl
 ·unfold WO;rw [Z4 (by omega:¬j<9),Z4 h1,Z4 (by omega:¬j<9),Z4 h1];by_cases h3:(j-54) / 27=n∧(j-54) % 27 / 3=p
  ·have e:(R.ZP n p x).sub ((j-54) / 27) ((j-54) % 27 / 3)=x:=by simp [Room.ZP,h3]
   rw [e,h3.1,h3.2,hx _ Zo];have:((j-54) % 3=i)↔(j=54+n*27+p*3+i):=by omega
   by_cases h4:(j-54) % 3=i
   ·rw [ZR h4,ZR (this.1 h4)]
   ·rw [Z4 h4,Z4 (fun e=>h4 (this.2 e))]
  ·have e:(R.ZP n p x).sub ((j-54) / 27) ((j-54) % 27 / 3)=R.sub ((j-54) / 27) ((j-54) % 27 / 3):=by simp [Room.ZP,h3]
   rw [e,Z4 Zo]
theorem ZT.ZP {w:World} {b:Nat} {R:Room} (h:ZT w b R) {n p:Nat} (hn:n<9) (hp:p<9) (x:Sub) :
  ZT (((w.setCell ⟨b,54+n*27+p*3,none⟩ (.bool x.there)).setCell ⟨b,54+n*27+p*3+1,none⟩ (.bool x.ZQ)).setCell ⟨b,54+n*27+p*3+2,none⟩ (.int .i64 x.want)) b (R.ZP n p x):=by
 have h1:=h.SN hn hp (i:=0) Zo (x:={R.sub n p with there:=x.there}) (v:= .bool x.there) (by intro j hj;unfold Th;by_cases h0:j=0 <;> simp [h0])
 have h2:=h1.SN hn hp (i:=1) Zo (x:={R.sub n p with there:=x.there,ZQ:=x.ZQ}) (v:= .bool x.ZQ) (by
  intro j hj;rw [Wf];unfold Th;by_cases h0:j=0 <;> by_cases h1:j=1 <;> simp [h0,h1])
 have h3:=h2.SN hn hp (i:=2) Zo (x:=x) (v:= .int .i64 x.want) (by
  intro j hj;rw [Wf];unfold Th;by_cases h0:j=0 <;> by_cases h1:j=1 <;> simp [h0,h1];omega)
 rw [MD,MD] at h3;exact h3
theorem VV (l:List Int):(YO l).length=l.length:=TB _
theorem Rc (l:List Int):∀ u∈YO l,u.oneCell'=true:=by
 intro u hu;obtain ⟨x,_,rfl⟩:=vO.1 hu;rfl
theorem NC {w:World} {v:Value} {l:List Int} (h:Row w 66 v l.length (YO l)) (hl:0<l.length):∃ g off cap,v = .slice (some ⟨g,off,none⟩) l.length cap∧l.length≤cap∧cap≤maxLen∧g<w.heap.size ∧
  ∀ j,j<l.length→w.cell? ⟨g,off+j,none⟩=some (.int .u32 (l.getD j 0)):=by
 exact fD
theorem Ps {w:World} {v:Value} {l:List Int} (h:XR w v l.length (YO l)) (hl:0<l.length):∃ g off cap,v = .slice (some ⟨g,off,none⟩) l.length cap∧l.length≤cap∧cap≤maxLen∧g<w.heap.size ∧
  ∀ j,j<l.length→w.cell? ⟨g,off+j,none⟩=some (.int .u32 (l.getD j 0)):=by
 exact fD
theorem W_:Elem Tryz.prog 72 3 1 8:=⟨Tryz.underlying72,⟨.int .i64 0,by kernel_rfl,rfl⟩,by decide⟩
theorem Vo:Elem Tryz.prog 29 66 1 4:=⟨Tryz.underlying29,⟨.int .u32 0,by kernel_rfl,rfl⟩,by decide⟩
theorem XM:Elem Tryz.prog 98 158 5 40:=⟨Tryz.underlying98,⟨.agg (Qh 0 0 0 0 0),by kernel_rfl,rfl⟩,by decide⟩
def Z9 (t:YB):List Value:=(Qh t.kind t.peer t.source t.ZH t.YE)
def V4 (t:YB):Value:= .agg (Qh t.kind t.peer t.source t.ZH t.YE)
abbrev YF (w:World) (v:Value) (l:List YB):Prop:=Row w 158 v l.length (l.flatMap Z9)
def ints (l:List Nat):List Value:=l.map fun (n:Nat)=>Value.int .i64 (n:Int)
theorem Lr (w:World) (e:TypeId) (n:Nat) (xs:List Value) (hn:n≤maxLen):Row (w.alloc (.cells xs.toArray e)) e (.slice (some ⟨w,0,none⟩) n n) n xs:=
 ⟨_,n,rfl,Zw _,hn,(fun h=>by cases h),Wh ⟨_,0,xs.toArray,(0,0),rfl,(by show (w.heap.push _)[w.heap.size]?=_;simp),fun j _=>by simp⟩⟩
theorem Yr (w:World) (e:TypeId) (n m:Nat) (xs:List Value) (hn:n≤maxLen) (hm:m=w.heap.size):Row (w.alloc (.cells xs.toArray e)) e (.slice (some ⟨m,0,none⟩) n n) n xs:=by
 subst hm;exact Lr w e n xs hn
end Go.Proofs.Rm
namespace Go.Proofs.By
open Go.RowKit Go.Proofs.Heap
open Go.Proofs.Rm (YF YB Room ZT YO Z9)
theorem Row.yz {B:Nat} {S:Nat→Prop} {w w':World} {e:TypeId} {v:Value} {n:Nat} {xs:List Value} (h:Row w e v n xs) (hf:Fr B S w w') (hB:w.heap.size≤B) (hS:∀ k c fr,S k→w.heap[k]?≠some (.cells c e fr)):Row w' e v n xs:=h.fr hf hB hS
structure RN where
 i:Ro
 bv:Value
 gv:Value
 pv:Value
def YX (x:RN):List Value:=[.int .i64 x.i.kind,.int .u32 x.i.YE,.int .u64 x.i.Ie,.int .u32 x.i.time,.int .u32 x.i.WY,.int .u32 x.i.octets,x.bv,x.gv,.int .u32 x.i.X5,x.pv]
structure Uf (w:World) (x:RN):Prop where
 b:Row w 228 x.bv x.i.blocks.length (x.i.blocks.flatMap Xb)
 g:Row w 66 x.gv x.i.gone.length (YO x.i.gone)
 p:Row w 226 x.pv x.i.XA.length (x.i.XA.flatMap Wj)
structure Ms (w:World) (v:Value) (L:List RN):Prop where
 row:Row w 173 v L.length (L.flatMap YX)
 each:∀ x∈L,Uf w x
def YI (w:World) (v:Value) (l:List Ro):Prop:=∃ L:List RN,l=L.map (·.i)∧Ms w v L
theorem Uf.below {w w':World} {x:RN} (h:Uf w x) (hb:Below w w w'):Uf w' x:=⟨h.b.below hb,h.g.below hb,h.p.below hb⟩
theorem YI.below {w w':World} {v:Value} {l:List Ro} (h:YI w v l) (hb:Below w w w'):YI w' v l:=by
 obtain ⟨L,h1,h2,h3⟩:=h;exact ⟨L,h1,h2.below hb,fun x hx=>(h3 x hx).below hb⟩
theorem YI.nil (w:World):YI w (.slice none 0 0) []:=⟨[],rfl,Row.nil _ _,fun _ h=>by cases h⟩
def KE (w:World) (S:Nat→Prop):Prop:=∀ k,S k→∃ c t fr,w.heap[k]?=some (.cells c t fr)∧t≠228∧t≠66∧t≠226∧t≠173∧t≠5∧t≠158∧t≠32
theorem KE.ne {w:World} {S:Nat→Prop} (h:KE w S) {e:TypeId} (he:e=228∨e=66∨e=226∨e=173∨e=5∨e=158∨e=32):∀ k c fr,S k→w.heap[k]?≠some (.cells c e fr):=by
 intro k c fr hk hc;obtain ⟨c',t,fr',h1,h2⟩:=h k hk;rw [h1] at hc;injection hc with hc
 injection hc with _ hc
 subst hc;obtain ⟨q1,q2,q3,q4,q5,q6,q7⟩:=h2;rcases he with h|h|h|h|h|h|h
 ·exact q1 h
 ·exact q2 h
 ·exact q3 h
 ·exact q4 h
 ·exact q5 h
 ·exact q6 h
 ·exact q7 h
theorem YI.fr {w w':World} {v:Value} {l:List Ro} {S:Nat→Prop} (h:YI w v l) (hf:Fr w S w w') (hS:KE w S):YI w' v l:=by
 obtain ⟨L,h1,h2,h3⟩:=h;exact ⟨L,h1,Row.fr h2 hf (Zw _) (hS.ne Zi),fun x hx=>⟨Row.fr (h3 x hx).b hf (Zw _) (hS.ne Zi),Row.fr (h3 x hx).g hf (Zw _) (hS.ne Zi),Row.fr (h3 x hx).p hf (Zw _) (hS.ne Zi)⟩⟩
theorem Row.form {w:World} {e:TypeId} {v:Value} {n:Nat} {xs:List Value} (h:Row w e v n xs):∃ a c,v = .slice a n c:=by
 obtain ⟨a,c,h,_⟩:=h;exact ⟨a,c,h⟩
theorem YI.form {w:World} {v:Value} {l:List Ro} (h:YI w v l):∃ a c,v = .slice a l.length c:=by
 obtain ⟨L,h1,h2,_⟩:=h;obtain ⟨a,c,h⟩:=Row.form h2;exact ⟨a,c,by rw [h,h1,TB]⟩
def V_ (p:KI) (d:FJ) (cv ev pv:Value):List Value:=[.bool p.XP,.int .i64 p.type,.int .u16 p.seq,.int .u32 p.time,.int .u32 p.YE,cv,.bool p.XO,.int .u16 p.Yl,ev,pv,.int .i64 p.pad,.int .i64 d.ZH,.bool d.key,.bool d.start,.int .u16 d.frame]
structure Vy (w:World) (p:KI) (cv ev pv:Value):Prop where
 c:Row w 66 cv p.VN.length (YO p.VN)
 e:Row w 5 ev p.ext.length (RD p.ext)
 p:Row w 5 pv p.ZG.length (RD p.ZG)
theorem Vy.below {w w':World} {p:KI} {cv ev pv:Value} (h:Vy w p cv ev pv) (hb:Below w w w'):Vy w' p cv ev pv:=⟨h.c.below hb,h.e.below hb,h.p.below hb⟩
theorem Vy.fr {w w':World} {p:KI} {cv ev pv:Value} {S:Nat→Prop} (h:Vy w p cv ev pv) (hf:Fr w S w w') (hS:KE w S):Vy w' p cv ev pv:=
 ⟨Row.fr h.c hf (Zw _) (hS.ne Zi),Row.fr h.e hf (Zw _) (hS.ne Zi),Row.fr h.p hf (Zw _) (hS.ne Zi)⟩
theorem Vy.nil (w:World):Vy w WT (.slice none 0 0) (.slice none 0 0) (.slice none 0 0):=⟨Row.nil _ _,Row.nil _ _,Row.nil _ _⟩
theorem Vy.form {w:World} {p:KI} {cv ev pv:Value} (h:Vy w p cv ev pv):(∃ a c,cv = .slice a p.VN.length c)∧(∃ a c,ev = .slice a p.ext.length c)∧(∃ a c,pv = .slice a p.ZG.length c):=⟨Row.form h.c,Row.form h.e,Row.form h.p⟩
def vv (w:World) (v:Value):Ev→Prop
 | .none=>v = .nilIface
 | .X5 p d=>∃ cv ev pv,v = .iface 97 (.agg (V_ p d cv ev pv).toArray)∧Vy w p cv ev pv
 | .XX l=>∃ iv,v = .iface 213 (.agg #[iv])∧YI w iv l
theorem vv.below {w w':World} {v:Value} {e:Ev} (h:vv w v e) (hb:Below w w w'):vv w' v e:=by
 cases e with
 | none=>exact h
 | X5 p d=>obtain ⟨cv,ev,pv,h1,h2⟩:=h;exact ⟨cv,ev,pv,h1,h2.below hb⟩
 | XX l=>obtain ⟨iv,h1,h2⟩:=h;exact ⟨iv,h1,h2.below hb⟩
def vh (T:Taken) (cv ev pv iv tv:Value):List Value:=[.int .i64 T.XC.kind,.int .i64 T.XC.source,.int .i64 T.XC.N6,.int .i64 T.XC.err]++V_ T.XW T.WJ cv ev pv++[iv,tv,.int .i64 T.unknown]
structure Yd (w:World) (cs:List Value) (T:Taken):Prop where
 ex:∃ cv ev pv iv tv,cs=vh T cv ev pv iv tv∧Vy w T.XW cv ev pv∧YI w iv T.items∧YF w tv T.turns
theorem Yd.size {w:World} {cs:List Value} {T:Taken} (h:Yd w cs T):cs.length=22:=by
 obtain ⟨cv,ev,pv,iv,tv,rfl,_⟩:=h.ex;rfl
theorem Yd.one {w:World} {cs:List Value} {T:Taken} (h:Yd w cs T):cs.toArray.all (·.oneCell')=true:=by
 obtain ⟨cv,ev,pv,iv,tv,rfl,h1,h2,h3⟩:=h.ex;obtain ⟨⟨_,_,rfl⟩,⟨_,_,rfl⟩,⟨_,_,rfl⟩⟩:=h1.form;obtain ⟨_,_,rfl⟩:=h2.form;obtain ⟨_,_,rfl⟩:=Row.form h3;kernel_rfl
theorem Yd.below {w w':World} {cs:List Value} {T:Taken} (h:Yd w cs T) (hb:Below w w w'):Yd w' cs T:=by
 obtain ⟨cv,ev,pv,iv,tv,h1,h2,h3,h4⟩:=h.ex;exact ⟨cv,ev,pv,iv,tv,h1,h2.below hb,h3.below hb,h4.below hb⟩
theorem Yd.fr {w w':World} {cs:List Value} {T:Taken} {S:Nat→Prop} (h:Yd w cs T) (hf:Fr w S w w') (hS:KE w S):Yd w' cs T:=by
 obtain ⟨cv,ev,pv,iv,tv,h1,h2,h3,h4⟩:=h.ex;exact ⟨cv,ev,pv,iv,tv,h1,h2.fr hf hS,h3.fr hf hS,Row.fr h4 hf (Zw _) (hS.ne Zi)⟩
theorem Yd.refused (w:World) (k e:Int):Yd w (vh (Yb k e) (.slice none 0 0) (.slice none 0 0) (.slice none 0 0) (.slice none 0 0) (.slice none 0 0)) (Yb k e):=
 ⟨_,_,_,_,_,rfl,Vy.nil w,YI.nil w,Row.nil _ _⟩
structure Ya (w:World) (g b:Nat) (R:Room) (ep:Int):Prop where
 Y8:w.heap[g]?=some (.cells (Qk (some ⟨b,0,none⟩) ep) 131 (0,0))
 room:ZT w b R
theorem Ya.cells {w:World} {g b:Nat} {R:Room} {ep:Int} (h:Ya w g b R ep):w.cell? ⟨g,0,none⟩=some (.pointer (some ⟨b,0,none⟩))∧w.cell? ⟨g,1,none⟩=some (.int .i64 ep)∧w.frozen? ⟨g,1,none⟩=false∧g<w.heap.size:=
 ⟨cell_of h.Y8 0,cell_of h.Y8 1,ZO h.Y8 1,ZW h.Y8⟩
theorem Ya.below {w w':World} {g b:Nat} {R:Room} {ep:Int} (h:Ya w g b R ep) (hb:Below w w w'):Ya w' g b R ep:=⟨by rw [hb.block g (ZW h.Y8)];exact h.Y8,h.room.below hb⟩
theorem Ya.apart {w:World} {g b:Nat} {R:Room} {ep:Int} (h:Ya w g b R ep):KE w (fun k=>k=b∨k=g):=by
 rintro k (rfl|rfl)
 ·obtain ⟨c,hc,_,_⟩:=h.room.cells;exact ⟨c,_,_,hc,by decide,by decide,by decide,by decide,by decide,by decide,by decide⟩
 ·exact ⟨_,_,_,h.Y8,by decide,by decide,by decide,by decide,by decide,by decide,by decide⟩
def Fs (n:Nat):Int × Int:=(((n / 65536:Nat):Int),((n % 65536:Nat):Int))
theorem Az (v:Value) (b:List UInt8) (k:Nat) (w:World) (hv:X6 w v b) (h4:b.length % 4=0) (hb:b.length≤1000) (Oj:12≤b.length) (hk:k≠203) (Ee:k<256) :
  Calls Tryz.prog 172 #[v,.int .i64 (k:Int)] w fun e w'=>(∃ a,e = .returned a∧S8 w' a (parts b k))∧Below w w w':=by
 have HV:Hid (∀ w',Below w w w'→X6 w' v b):=fun w' h=>hv.below h
 have hlen:=hv.len;obtain ⟨a,c,rfl,R4,-⟩:=id hv;obtain ⟨m,hm⟩:∃ m,b.length=12+4*m:=⟨(b.length-12) / 4,Zo⟩
 have HW:Hid (∀ j,j<m→((XV b 12).take (j+1)).map Fs=((XV b 12).take j).map Fs++[Fs (get b (12+4*(j:Int)) 4)]):=fun j hj=>by
  rw [En b 12 j Zo,NR,uX];rfl
 have mH:Hid ((XV b 12).length=m):=by show _=_;rw [GN];omega
 have HWT:Hid (∀ j,j≤m→(((XV b 12).take j).map Fs).length=j):=fun j hj=>by rw [TB,S4,mH.o];omega
 have HE:Hid (parts b k={XT with kind:=k,YE:=get b 4 4,X5:=get b 8 4,XA:=(XV b 12).map Fs}):=by show _=_;unfold parts;rw [Z4 hk];rfl
 have LK:get b 4 4<4294967296:=U5 b 4 4 4 Zd;have hx8:get b 8 4<4294967296:=U5 b 8 4 4 Zd;have C4:=Zh (PT _ b 4 ((w.alloc (.cells (Vu 0 0 0 (.slice none 0 0) (.slice none 0 0)) 173)).alloc (.cells (Vu k 0 0 (.slice none 0 0) (.slice none 0 0)) 173)) (HV.o _ (PB.start w k 0 0).Zg));have C8:=Zh (PT _ b 8 ((w.alloc (.cells (Vu 0 0 0 (.slice none 0 0) (.slice none 0 0)) 173)).alloc (.cells (Vu k 0 0 (.slice none 0 0) (.slice none 0 0)) 173)) (HV.o _ (PB.start w k 0 0).Zg));have bk:((k:Int) == 203)=false:=by rw [WR];omega
 have bk2:((k:Int) != 203)=true:=by rw [RQ];omega
 have CN:Hid (∀ w' (j:Nat),Below w w w'→Calls Tryz.prog 183 (Q7 a b.length c (12+4*(j:Int))) w' fun e w1=>e = .returned (.int .u32 (get b (12+4*(j:Int)) 4:Nat))∧w'=w1):=fun w' j h=>PT _ b _ w' (HV.o w' h)
 have Bx:=Zh (PB.start w k (get b 4 4:Nat) (get b 8 4:Nat));clear hv HV;rw [hm];rw [hm] at CN C4 C8;have di:m≤250:=by omega
 generalize parts b k=X at *
 generalize get b 4 4=s4 at *
 generalize get b 8 4=s8 at *
 clear hm hlen h4 hb Oj R4 hk;go_enter Tryz.func172,Tryz.ntmps172;go_wp2_with fail
 refine C4.o.mono ?_;rintro e w' ⟨rfl,rfl⟩;go_wp2_with fail
 refine C8.o.mono ?_;rintro e w' ⟨rfl,rfl⟩;go_wp2_with fail
 go_loopw [6] (fun i w'=>∃ (j:Nat) (pv:Value),j≤m∧i = .int .i64 (12+4*(j:Int))∧PB w w' k s4 s8 (.slice none 0 0) pv∧w'.ownsRow (w.heap.size+2) 226 2 pv j ((((XV b 12).take j).map Fs).flatMap Wj)) (fun i _=>12+4*m-(intOf i).toNat)
 case atStart=>exact ⟨0,.slice none 0 0,Tk _,rfl,Bx.o,TY _ _ _ _⟩
 case round=>
  clear Bx;obtain ⟨j,gv,hj,rfl,Ej,YH⟩:=hrel;have Rn:=Zh Ej;have Yh:=Zh YH;have TR:=Ej.size;have c9:wr.cell? ⟨w.heap.size+1,9,none⟩=some gv:=Ej.cell 9;clear Ej YH;by_cases zX:j<m
  ·have CN1:=Zh (CN.o wr j Rn.o.Zg);have y_:=Zh (HW.o j zX);have hn:get b (12+4*(j:Int)) 4<4294967296:=U5 b _ 4 4 Zd;generalize get b (12+4*(j:Int)) 4=n at *
   have Iq:Hid (Wj (Fs n)=(Qy ((n:Int) / 65536) (IntKind.u16.wrap (n:Int)))):=by
    show _=_;have h1:IntKind.u16.wrap (n:Int)=((n % 65536:Nat):Int):=by simp [IntKind.wrap,IntKind.bits,IntKind.signed]
    rw [h1];show [Value.int .u16 ((n / 65536:Nat):Int),Value.int .u16 ((n % 65536:Nat):Int)]=_;rw [Int.natCast_ediv];rfl
   go_wp2_with (first|(go_at_call 183;refine CN1.o.mono ?_;rintro e w' ⟨rfl,rfl⟩)|(at_builtin;refine YV rfl (.tmp 36) (.tmp 43) 171 rfl (w.heap.size+2) KT gv j _ rfl (Yh.o.alloc _) _ 1 (Qy ((n:Int) / 65536) (IntKind.u16.wrap (n:Int))) rfl (Vz wr 226 1 (Qy ((n:Int) / 65536) (IntKind.u16.wrap (n:Int))) Zd) rfl (by intro u hu;simp at hu;rcases hu with rfl|rfl <;> rfl) Zo Zo Ug (fun v' w5 HO HG=>?_);have Bz:=Zh ((Rn.o.below (Z' wr (.cells (Qy ((n:Int) / 65536) (IntKind.u16.wrap (n:Int))) 226))).grown HG.o (Lh Yh.o));have JG:=Bz.o.size;have f9:=Bz.o.frozen 9;have c95:w5.cell? ⟨w.heap.size+1,9,none⟩=some gv:=Bz.o.cell 9;obtain ⟨va,vc,o5,-,-⟩:=Row.Z6 HO.o;subst o5))
   go_roundw
   case rel=>exact ⟨j+1,_,Zo,Zn,Bz.o.setP _,by rw [y_.o];exact U8 (by have:=HO.o;rw [←Iq.o] at this;rw [OQ];exact this) Zo _⟩
   case measure=>simp [intOf];omega
  ·obtain rfl:j=m:=by omega
   have ZY:=Row.Z6 Yh.o;obtain ⟨va,vc,rfl,-,-⟩:=id ZY;have e0:=Rn.o.cell 0;have e1:=Rn.o.cell 1;have e2:=Rn.o.cell 2;have e3:=Rn.o.cell 3;have e4:=Rn.o.cell 4;have e5:=Rn.o.cell 5;have e6:=Rn.o.cell 6;have e7:=Rn.o.cell 7;have e8:=Rn.o.cell 8;simp only [Vu,SE,SD,R8] at e0 e1 e2 e3 e4 e5 e6 e7 e8;have U':=Zh ZY;have g0:=fun k=>Rn.o.frozen0 k
   have g00:=g0 0;have z0:=Rn.o.cell0 0;have g10:=g0 1;have z1:=Rn.o.cell0 1;have g20:=g0 2;have z2:=Rn.o.cell0 2;have g30:=g0 3;have z3:=Rn.o.cell0 3;have g40:=g0 4;have z4:=Rn.o.cell0 4;have g50:=g0 5;have z5:=Rn.o.cell0 5;have g60:=g0 6;have z6:=Rn.o.cell0 6;have g70:=g0 7;have z7:=Rn.o.cell0 7;have g80:=g0 8;have z8:=Rn.o.cell0 8;have g90:=g0 9;have z9:=Rn.o.cell0 9;simp only [Vu,SE,SD,R8] at z0 z1 z2 z3 z4 z5 z6 z7 z8 z9;clear ZY g0;have HT:Hid ((XV b 12).take j=XV b 12):=FL (by rw [mH.o];exact Zw _);have Bt:Hid (((XV b 12).map Fs).length=j):=by show _=_;rw [TB];exact mH.o
   have HK:Hid (∀ w',Fr wr (· = w.heap.size) wr w'→(Row w' 226 (.slice va j vc) j ((((XV b 12).take j).map Fs).flatMap Wj)∧Below w w w')):=fun w' hf=>
    ⟨U'.o.fr hf (Zw _) (fun k c' fr hk e=>by subst hk;rw [Rn.o.vR] at e;injection e with e;injection e with _ e _;exact absurd e Zd),Rn.o.Zg.trans (Fr.below (hf.mono (gf (Nat.lt_trans (Nat.lt_succ_self _) TR)) (fun k hk hs=>by have hs:k=w.heap.size:=hs;omega)))⟩
   go_wp2;refine VD (v:= .agg (Qe k s4 0 0 0 0 none 0 0 none 0 0 s8 va j vc)) (by simp [results,Tryz.results172,go_sem,z0,z1,z2,z3,z4,z5,z6,z7,z8,z9]) rfl ⟨⟨_,rfl,?_⟩,?_⟩
   ·have h:=HK.o _ (jJ wr w.heap.size (.int .i64 k) (.int .u32 s4) (.int .u64 0) (.int .u32 0) (.int .u32 0) (.int .u32 0) (.slice none 0 0) (.slice none 0 0) (.int .u32 s8) (.slice va j vc));rw [HT.o] at h;refine ⟨.slice none 0 0,.slice none 0 0,.slice va j vc,by rw [HE.o];rfl,by rw [HE.o];exact Row.nil _ _,by rw [HE.o];exact Row.nil _ _,?_⟩;rw [HE.o];show Row _ _ _ ((XV b 12).map Fs).length _;rw [Bt.o]
    with_reducible exact h.1
   ·have h:=HK.o _ (jJ wr w.heap.size (.int .i64 k) (.int .u32 s4) (.int .u64 0) (.int .u32 0) (.int .u32 0) (.int .u32 0) (.slice none 0 0) (.slice none 0 0) (.int .u32 s8) (.slice va j vc))
    with_reducible exact h.2
end Go.Proofs.By
namespace Go.Proofs.By
open Go.RowKit Go.Proofs.Heap
theorem Fz (v:Value) (b:List UInt8) (w:World) (hv:X6 w v b) (h0:(right b).2≠0) :
  Calls Tryz.prog 170 #[v] w fun e w'=>(∃ a,e = .returned (.tuple #[a,.int .i64 (XZ b).1.2,.int .i64 (XZ b).2])∧S8 w' a (XZ b).1.1)∧Below w w w':=by
 have HX:Hid (XZ b=((XT,0),(right b).2)):=by show _=_;unfold XZ;rw [ZR h0]
 have C:=fun w1 h=>EI v b w1 (hv.below (h:Below w w w1))
 have HC:=Zh C;obtain ⟨a,c,rfl,R4,-⟩:=id hv;clear C hv;have bl:((right b).2 != 0)=true:=by rw [RQ];exact h0
 have bl2:((right b).2 == 0)=false:=by rw [WR];exact h0
 generalize XZ b=X at *
 generalize right b=Y at *
 go_enter Tryz.func170,Tryz.ntmps170;go_wp2_with fail
 refine (HC.o _ (Z' _ _)).mono ?_;rintro e w2 ⟨rfl,Y7⟩;have y0:=Y7.block w.heap.size BJ;rw [Z8] at y0;have zz:w.heap.size+1≤w2.heap.size:=by have h:=Y7.size;have h:(w.heap.push _).size≤w2.heap.size:=h;rw [OI] at h;exact h
 have z1:=cell_of y0 0;have z2:=cell_of y0 1;have z3:=cell_of y0 2;have z4:=cell_of y0 3;have z5:=cell_of y0 4;have z6:=cell_of y0 5;have z7:=cell_of y0 6;have z8:=cell_of y0 7;have z9:=cell_of y0 8;have qi:=cell_of y0 9;simp only [SE,SD,R8] at z1 z2 z3 z4 z5 z6 z7 z8 z9 qi;have JD:=fun (R:World→Prop) (h:R w2)=>(by rw [setRow_self _ _ _ _ _ y0];exact h:R (w2.setRow w.heap.size YZ))
 have HS:=Zh JD;clear JD HC;go_wp2_with (with_reducible refine ZU 173 (.tmp 2) (.tmp 14) rfl ?_;go_loud (refine ZV rfl 173 _ _ rfl rfl w.heap.size YZ rfl rfl 173 _ y0 ZB ZB ZB ?_;refine HS.o _ ?_))
 refine VD (v:= .tuple (Qs YZ 0 Y.2)) (by simp [results,Tryz.results170,go_sem,z1,z2,z3,z4,z5,z6,z7,z8,z9,qi]) rfl ⟨⟨_,by rw [HX.o];rfl,?_⟩,?_⟩
 ·exact ⟨.slice none 0 0,.slice none 0 0,.slice none 0 0,by rw [HX.o];rfl,by rw [HX.o];exact Row.nil _ _,by rw [HX.o];exact Row.nil _ _,by rw [HX.o];exact Row.nil _ _⟩
 ·have h5:=Y7.mono (show w.heap.size≤(w.heap.push _).size by rw [OI];exact Ix _);exact (Z' w _).trans h5
structure RB (w w':World) (k:Nat) (v:Value) (p:Nat) (cs:List Value):Prop where
 Zg:Below w w w'
 Y8:w'.heap[w.heap.size]?=some (.cells cs.toArray 173)
 lj:TN w' k v p
 lt:w.heap.size<k
theorem RB.sS {w w':World} {k:Nat} {v:Value} {p:Nat} {cs:List Value} (h:RB w w' k v p cs):k<w'.heap.size:=h.lj.lt
theorem RB.cell {w w':World} {k:Nat} {v:Value} {p:Nat} {cs:List Value} (h:RB w w' k v p cs) (j:Nat):w'.cell? ⟨w,j,none⟩=cs[j]?:=by
 rw [cell_of h.Y8 j];exact SE
theorem RB.frozen {w w':World} {k:Nat} {v:Value} {p:Nat} {cs:List Value} (h:RB w w' k v p cs) (j:Nat):w'.frozen? ⟨w,j,none⟩=false:=ZO h.Y8 j
theorem RB.move {w w1 w':World} {k:Nat} {v:Value} {p q:Nat} {cs:List Value} (h:RB w w1 k v p cs) (he:TN w' k v q) (hf:Fr w1 (· = k) w1 w'):RB w w' k v q cs:=by
 have hk:=h.sS;have hl:=h.lt;refine ⟨h.Zg.trans (Fr.below (hf.mono (show w.heap.size≤w1.heap.size by omega) (fun j hj hs=>by have hs:j=k:=hs;omega))),?_,he,hl⟩;rw [hf.block w.heap.size Zo (fun hs=>by have hs:w.heap.size=k:=hs;omega)];exact h.Y8
theorem RB.below {w w1 w':World} {k:Nat} {v:Value} {p:Nat} {cs:List Value} (h:RB w w1 k v p cs) (hb:Below w1 w1 w'):RB w w' k v p cs:=by
 have hk:=h.sS;have hl:=h.lt;refine ⟨h.Zg.trans (hb.mono Zo),?_,?_,hl⟩
 ·rw [hb.block w.heap.size Zo];exact h.Y8
 ·show w'.heap[k]?=_;rw [hb.block k hk];exact h.lj
theorem RB.set {w w':World} {k:Nat} {v:Value} {p:Nat} {cs:List Value} (h:RB w w' k v p cs) (j:Nat) (u:Value):RB w (w'.setCell ⟨w,j,none⟩ u) k v p (cs.set j u):=by
 have hl:=h.lt;have h0:=h.Y8;refine ⟨h.Zg.setCell (p:=⟨w,j,none⟩) (Zw _) u,?_,?_,hl⟩
 ·simp only [World.setCell,Array.getElem?_modify,h0,if_true,Option.map_some];simp
 ·show (w'.setCell ⟨w,j,none⟩ u).heap[k]?=_;simp only [World.setCell,Array.getElem?_modify];rw [Z4 Zo];exact h.lj
theorem RB.grown {w w1 w':World} {k:Nat} {v:Value} {p:Nat} {cs:List Value} (h:RB w w1 k v p cs) {row:Option Nat} (hg:w1.grownBy w' row) (hr:∀ j,row=some j→k<j):RB w w' k v p cs:=by
 have hk:=h.sS;have hl:=h.lt;refine ⟨h.Zg.trans ⟨hg.os,hg.tape,hg.output,hg.size,fun i hi=>hg.block i Zo (fun e=>by have:=hr i e.symm;omega)⟩,?_,?_,hl⟩
 ·rw [hg.block w.heap.size Zo (fun e=>by have:=hr _ e.symm;omega)];exact h.Y8
 ·show w'.heap[k]?=_;rw [hg.block k hk (fun e=>by have:=hr _ e.symm;omega)];exact h.lj
end Go.Proofs.By
namespace Go.Proofs.By
open Go.RowKit Go.Proofs.Heap
theorem G' {b:List UInt8} (h:(right b).2=0):4≤b.length∧(at8 b 1=200∨at8 b 1=201)∧at8 b 0 % 32≤15∧(right b).1=UQ (at8 b 1) (at8 b 0 % 32)∧UQ (at8 b 1) (at8 b 0 % 32)≤b.length:=by
 unfold right at h ⊢;split at h
 ·cases h
 rename_i h1
 rw [Z4 h1];split at h
 ·cases h
 rename_i h2
 rw [Z4 h2];split at h
 ·cases h
 rename_i h3
 rw [Z4 h3];split at h
 ·cases h
 rename_i h4
 rw [Z4 h4];split at h
 ·cases h
 rename_i h5
 rw [Z4 h5];exact ⟨Zo,Zo,Zo,rfl,Zo⟩
theorem MU:Elem Tryz.prog 170 228 7 28:=⟨Tryz.underlying170,⟨.agg (Qt 0 0 0 0 0 0 0),by kernel_rfl,rfl⟩,by decide⟩
theorem Sq {P:Program} {ops:Array Oper} {o:Oper} {a:Act} {w:World} {K:Act→World→Prop} {Q:Exit→Act→World→Prop} {E':Prop} (Mb:o.guard=none) (ty:TypeId) (x y:Operand) (ho:o.op = .store ty x y) (hd:o.dst=none)
  (g:Nat) (cells:Array Value) (hx:a.eval x = .pointer (some ⟨g,0,none⟩)) (hy:a.eval y = .agg cells)
  (t:TypeId) (old:Array Value) (hg:w.heap[g]?=some (.cells old t (0,0))) (hi:(P.info? ty).map (·.size)=some cells.size)
  (hold:old.size=cells.size) (h1:cells.all (·.oneCell')=true) (h:K a (w.setRow g cells)) :
  if Region.wanted o (yielded ops a.tmps)=true then Oper.wp P o a w K Q else E':=by
 have hw:Region.wanted o (yielded ops a.tmps)=true:=by simp [Region.wanted,Mb]
 rw [ZR hw];exact Go.wp_store_row ty x y ho g cells hx hy t old hg hi hold h1 (by rw [hd];exact h)
theorem RB.row {w w':World} {k:Nat} {v:Value} {p:Nat} {cs:List Value} (h:RB w w' k v p cs) (cs':List Value):RB w (w'.setRow w.heap.size cs'.toArray) k v p cs':=by
 have hl:=h.lt
 have he:∀ j,j≠w.heap.size→(w'.setRow w.heap.size cs'.toArray).heap[j]?=w'.heap[j]?:=fun j hj=>by
  simp only [World.setRow,Array.getElem?_modify];rw [Z4 (fun e=>hj e.symm)]
 refine ⟨⟨h.Zg.os,h.Zg.tape,h.Zg.output,by simpa [World.setRow] using h.Zg.size,fun j hj=>by rw [he j Zo];exact h.Zg.block j hj⟩,setRow_heap _ _ _ _ _ _ h.Y8,?_,hl⟩;show (w'.setRow _ _).heap[k]?=_;rw [he k Zo];exact h.lj
structure RL (w w':World) (k:Nat) (v:Value) (p:Nat) (cs:List Value) (bv:Value) (j:Nat) (xs:List Value):Prop where
 rb:RB w w' k v p cs
 own:w'.ownsRow (k+1) 228 7 bv j xs
theorem RL.move {w w1 w':World} {k:Nat} {v:Value} {p q:Nat} {cs:List Value} {bv:Value} {j:Nat} {xs:List Value} (h:RL w w1 k v p cs bv j xs) (he:TN w' k v q) (hf:Fr w1 (· = k) w1 w'):RL w w' k v q cs bv j xs:=
 ⟨h.rb.move he hf,C_ h.own fun i hi PV=>hf.block i PV (fun hs=>by have hs:i=k:=hs;omega)⟩
theorem RL.below {w w1 w':World} {k:Nat} {v:Value} {p:Nat} {cs:List Value} {bv:Value} {j:Nat} {xs:List Value} (h:RL w w1 k v p cs bv j xs) (hb:Below w1 w1 w'):RL w w' k v p cs bv j xs:=
 ⟨h.rb.below hb,Yw h.own hb⟩
theorem RL.other {w w1:World} {k:Nat} {v:Value} {p:Nat} {cs:List Value} {bv:Value} {j:Nat} {xs:List Value} (h:RL w w1 k v p cs bv j xs) {g o:Nat} {c:Array Value} {f:Nat × Nat} (hg:w1.heap[g]?=some (.cells c 228 f)) (hk:k<g) (hb:∀ i,bv.ownBlock=some i→i≠g) (u:Value):RL w (w1.setCell ⟨g,o,none⟩ u) k v p cs bv j xs:=by
 have hl:=h.rb.lt;refine ⟨⟨h.rb.Zg.setCell (p:=⟨g,o,none⟩) (by show w.heap.size≤g;omega) u,?_,?_,hl⟩,?_⟩
 ·rw [MH _ _ _ _ (by show w.heap.size≠g;omega)];exact h.rb.Y8
 ·show (w1.setCell _ _).heap[k]?=_;rw [MH _ _ _ _ (by show k≠g;omega)];exact h.rb.lj
 ·obtain ⟨h1,h2⟩:=h.own;refine ⟨h1,?_⟩;rcases h2 with h2|⟨g2,cap,cur,hv,om,hh,r⟩
  ·exact Ws h2
  ·have WK:g2≠g:=hb g2 (by rw [hv];rfl);exact Wh ⟨g2,cap,cur,hv,om,by rw [MH _ _ _ _ (by show g2≠g;exact WK)];exact hh,r⟩
theorem RL.grown {w w1 w':World} {k:Nat} {v:Value} {p:Nat} {cs:List Value} {bv:Value} {j:Nat} {xs:List Value} (h:RL w w1 k v p cs bv j xs) (hg:w1.grownBy w' bv.ownBlock):RB w w' k v p cs:=
 h.rb.grown hg (fun i hi=>by have:=Lh h.own i hi;omega)
theorem RL.word {w w1:World} {k:Nat} {v:Value} {b:List UInt8} {p:Nat} {cs:List Value} {bv:Value} {j:Nat} {xs:List Value} (h:RL w w1 k v p cs bv j xs) (hv:∀ w',Below w w w'→X6 w' v b) (hp:p≤100000) :
  Calls Tryz.prog 180 #[.pointer (some ⟨k,0,none⟩)] w1 fun e w'=>e = .returned (.int .u32 (get b p 4:Nat))∧RL w w' k v (p+4) cs bv j xs∧Fr w1 (· = k) w1 w':=
 (J4 k v b p w1 h.rb.lj (hv _ h.rb.Zg) hp).mono fun _ _ ⟨h1,h2,h3⟩=>⟨h1,h.move h2 h3,h3⟩
theorem RL.get {w w1:World} {k:Nat} {v:Value} {b:List UInt8} {p:Nat} {cs:List Value} {bv:Value} {j:Nat} {xs:List Value} (h:RL w w1 k v p cs bv j xs) (hv:∀ w',Below w w w'→X6 w' v b) (hp:p≤100000) (q:Nat) (hq:q≤100) :
  Calls Tryz.prog 181 (Qk (some ⟨k,0,none⟩) (q:Int)) w1 fun e w'=>e = .returned (.int .u64 (get b p q:Nat))∧RL w w' k v (p+q) cs bv j xs∧Fr w1 (· = k) w1 w':=
 (Gh k v b p q w1 h.rb.lj (hv _ h.rb.Zg) hp hq).mono fun _ _ ⟨h1,h2,h3⟩=>⟨h1,h.move h2 h3,h3⟩
theorem uH {w:World} {g:Nat} {o:Obj} (h:w.heap[g]?=some o):g<w.heap.size:=by
 rcases Nat.lt_or_ge g w.heap.size with h1|h1
 ·exact h1
 ·rw [E7 h1] at h;cases h
theorem Cb {w1 w':World} {k g:Nat} {o:Obj} (hf:Fr w1 (· = k) w1 w') (h:w1.heap[g]?=some o) (WK:k<g):w'.heap[g]?=some o:=by
 rw [hf.block g (uH h) (fun hs=>by have hs:g=k:=hs;omega)];exact h
theorem Hz {w:World} {g:Nat} {c:Array Value} {t:TypeId} {f:Nat × Nat} (h:w.heap[g]?=some (.cells c t f)) (o:Nat) (u:Value):(w.setCell ⟨g,o,none⟩ u).heap[g]?=some (.cells (c.setIfInBounds o u) t f):=by
 simp [World.setCell,Array.getElem?_modify,h]
theorem RB.word {w w1:World} {k:Nat} {v:Value} {b:List UInt8} {p:Nat} {cs:List Value} (h:RB w w1 k v p cs) (hv:∀ w',Below w w w'→X6 w' v b) (hp:p≤100000) :
  Calls Tryz.prog 180 #[.pointer (some ⟨k,0,none⟩)] w1 fun e w'=>e = .returned (.int .u32 (get b p 4:Nat))∧RB w w' k v (p+4) cs∧Fr w1 (· = k) w1 w':=
 (J4 k v b p w1 h.lj (hv _ h.Zg) hp).mono fun _ _ ⟨h1,h2,h3⟩=>⟨h1,h.move h2 h3,h3⟩
theorem RB.get {w w1:World} {k:Nat} {v:Value} {b:List UInt8} {p:Nat} {cs:List Value} (h:RB w w1 k v p cs) (hv:∀ w',Below w w w'→X6 w' v b) (hp:p≤100000) (q:Nat) (hq:q≤100) :
  Calls Tryz.prog 181 (Qk (some ⟨k,0,none⟩) (q:Int)) w1 fun e w'=>e = .returned (.int .u64 (get b p q:Nat))∧RB w w' k v (p+q) cs∧Fr w1 (· = k) w1 w':=
 (Gh k v b p q w1 h.lj (hv _ h.Zg) hp hq).mono fun _ _ ⟨h1,h2,h3⟩=>⟨h1,h.move h2 h3,h3⟩
theorem RL.set {w w':World} {k:Nat} {v:Value} {p:Nat} {cs:List Value} {bv:Value} {j:Nat} {xs:List Value} (h:RL w w' k v p cs bv j xs) (i:Nat) (u:Value):RL w (w'.setCell ⟨w,i,none⟩ u) k v p (cs.set i u) bv j xs:=
 ⟨h.rb.set i u,U8 h.own (by have:=h.rb.lt;omega) u⟩
end Go.Proofs.By
namespace Go.Proofs.Heap
open Go Go.RowKit
section
variable {P:Program}
theorem vd {w:World} (t ty:TypeId) (base:Nat) {e:TypeId} {size bytes:Nat} (E:Elem P t e size bytes) (v:Value) (n:Nat) (xs:List Value) (YH:w.ownsRow base e size v n xs)
  (vx:Value) (m:Nat) (news:List Value) (ZY:Row w e vx m news) (hl:news.length=m*size) (h1:∀ u∈news,u.oneCell'=true)
  (Ur:(n+m)*bytes≤140737488355328) (nT:n+m≤9223372036854775807) (R_:base≤w.heap.size) :
  ∃ v' w',(Builtin.append_ #[t,t] ty #[v,vx]).run P w = .ok v' w'∧w'.ownsRow base e size v' (n+m) (xs++news)∧w.grownBy w' v.ownBlock:=by
 obtain ⟨z,Uz,lH⟩:=E.info;obtain ⟨i,hi,hz,Sg,oh⟩:=info_parts Uz;obtain ⟨ad,cap,hv,_,_,h0,hr⟩:=ZY;subst hv;have wm:n+m≤maxLen:=by unfold maxLen;omega
 cases ad with
 | none=>
  exact fy
 | some ad=>
  obtain ⟨v',w',Co,h2,h3,_⟩:=run_append_own w base t ty e i z size bytes E.ht hi hz Sg oh lH E.pos v n xs YH ad m cap news hl (by
   intro j u hu;rcases hr with hr|⟨b,off,c,fr,NS,hb,hc⟩
   ·subst hr;simp at hu
   ·cases NS;have hj:j<news.length:=(List.getElem?_eq_some_iff.1 hu).1;have:=hc j hj;have Nk:(⟨b,off,none⟩:Addr).add j=⟨b,off+j,none⟩:=by unfold Addr.add;split <;> simp_all
    rw [Nk];simp only [World.cell?,hb]
    simpa [hu] using this) h1 wm Ur R_
  exact ⟨v',w',Co,h2,h3⟩
theorem Zp {ops:Array Oper} {o:Oper} {a:Act} {w:World} {K:Act→World→Prop} {Q:Exit→Act→World→Prop} {E':Prop} (Mb:o.guard=none) (s x:Operand) (t:TypeId)
  (ho:o.op = .call {callee:= .builtin .append,args:=#[s,x],argTypes:=#[t,t]})
  (base:Nat) {e:TypeId} {size bytes:Nat} (E:Elem P t e size bytes)
  (v:Value) (n:Nat) (xs:List Value) (hs:a.eval s=v) (YH:w.ownsRow base e size v n xs)
  (vx:Value) (m:Nat) (news:List Value) (hx:a.eval x=vx) (ZY:Row w e vx m news) (hl:news.length=m*size) (h1:∀ u∈news,u.oneCell'=true)
  (Ur:(n+m)*bytes≤140737488355328) (nT:n+m≤9223372036854775807) (R_:base≤w.heap.size)
  (h:∀ v' w',Hid (w'.ownsRow base e size v' (n+m) (xs++news))→Hid (w.grownBy w' v.ownBlock)→K (a.put o.dst v') w') :
  if Region.wanted o (yielded ops a.tmps)=true then Oper.wp P o a w K Q else E':=by
 have hw:Region.wanted o (yielded ops a.tmps)=true:=by simp [Region.wanted,Mb]
 rw [ZR hw];obtain ⟨v',w',Co,h2,h3⟩:=vd (P:=P) t o.type base E v n xs YH vx m news ZY hl h1 Ur nT R_;unfold Oper.wp;simp [execOp,ho,resolve,invoke,builtin,hs,hx,Co,Result.andThen];exact h v' w' h2 h3
end
end Go.Proofs.Heap
