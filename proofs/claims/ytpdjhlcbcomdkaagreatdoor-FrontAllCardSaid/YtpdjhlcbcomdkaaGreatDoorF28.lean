/- Part of a proof. -/
import Derived.Test.YtpdjhlcbcomdkaaGreatDoorF26
set_option linter.unusedVariables false
set_option linter.unusedSimpArgs false
set_option maxRecDepth 100000
set_option maxHeartbeats 16000000
open Go Go.Q Go.Qr
namespace Go.Proofs.By
open Go.RowKit Go.Proofs.Heap Go.Proofs
def UF (c:List UInt8) (n:Nat):List Int:=(List.range n).map fun (i:Nat)=>((get c ((4*i:Nat):Int) 4:Nat):Int)
def T4 (c:List UInt8) (n:Nat):List (Int × Int):=(List.range n).map fun (i:Nat)=>(((get c ((8+4*i:Nat):Int) 2:Nat):Int),((get c (((8+4*i:Nat):Int)+2) 2:Nat):Int))
def iE (c:List UInt8) (p:Int):uB:=⟨get c p 4,get c (p+4) 1,get c (p+5) 3,get c (p+8) 4,get c (p+12) 4,get c (p+16) 4,get c (p+20) 4⟩
def VP (c:List UInt8) (P n:Nat):List uB:=(List.range n).map fun (i:Nat)=>iE c ((P+24*i:Nat):Int)
def XP (k n:Nat) (c:List UInt8):R6:=
 if k=203 then ⟨203,0,0,0,0,0,[],UF c n,0,[]⟩
 else if k=205 then ⟨205,get c 0 4,0,0,0,0,[],[],get c 4 4,T4 c n⟩
 else if k=206 then ⟨206,get c 0 4,0,0,0,0,[],[],get c 4 4,[]⟩
 else if k=200 then ⟨200,get c 0 4,get c 4 8,get c 12 4,get c 16 4,get c 20 4,VP c 24 n,[],0,[]⟩
 else ⟨201,get c 0 4,0,0,0,0,VP c 4 n,[],0,[]⟩
structure GI (w w':World) (cs:List Value):Prop where
 YI:Below w w w'
 z:w'.heap[w.heap.size]?=some (.cells Y9 173 (0,0))
 Y8:w'.heap[w.heap.size+1]?=some (.cells cs.toArray 173 (0,0))
section
variable {w w1 w2:World} {cs:List Value}
theorem GI.below (h:GI w w1 cs) (hb:Below w1 w1 w2):GI w w2 cs:=⟨h.YI.trans (hb.mono h.YI.size),(hb.block _ (ZQ h.z)).trans h.z,(hb.block _ (ZQ h.Y8)).trans h.Y8⟩
theorem GI.set (h:GI w w1 cs) (j:Nat) (u:Value):GI w (w1.setCell ⟨w.heap.size+1,j,none⟩ u) (cs.set j u):=by
 have h2:=WA h.Y8 j u
 rw [List.setIfInBounds_toArray] at h2
 exact ⟨((Fr.Z9 Lm h.YI).setCell (p:=⟨w.heap.size+1,j,none⟩) (Wc (JK _)) _).below,(Hk w1 ⟨w.heap.size+1,j,none⟩ u w.heap.size (by show w.heap.size≠w.heap.size+1;omega)).trans h.z,h2⟩
theorem GI.grown (h:GI w w1 cs) {e:TypeId} {size:Nat} {v:Value} {n:Nat} {xs:List Value} (ho:w1.ownsRow w e size v n xs) (he:173≠e) (hg:w1.grownBy w2 v.ownBlock):GI w w2 cs:=
 ⟨((Fr.Z9 Lm h.YI).grown hg h.YI.size (Rm.Yw ho)).below,(hg.block _ (ZQ h.z) (fun x=>X4 ho he _ _ _ x.symm h.z)).trans h.z,(hg.block _ (ZQ h.Y8) (fun x=>X4 ho he _ _ _ x.symm h.Y8)).trans h.Y8⟩
theorem GI.start (w:World) (k:Nat):GI w (((w.alloc (.cells Y9 173)).alloc (.cells Y9 173)).setRow (w.heap.size+1) (Qc (k:Int) 0 0 0 0 0 none 0 0 none 0 0 0 none 0 0)) (Qc (k:Int) 0 0 0 0 0 none 0 0 none 0 0 0 none 0 0):=by
 have e1:(w.alloc (.cells Y9 173)).heap.size=w.heap.size+1:=by show (w.heap.push _).size=_;rw [Rg]
 have hz:((w.alloc (.cells Y9 173)).alloc (.cells Y9 173)).heap[w.heap.size+1]?=some (.cells Y9 173 (0,0)):=by
  have h:=Z5 (w.alloc (.cells Y9 173)) (.cells Y9 173)
  rw [e1] at h
  exact h
 refine ⟨Z0 (ZA (Z' w _) (ZB _) _) (JK _) _,?_,setRow_heap _ _ _ _ _ _ hz⟩
 rw [setRow_other _ _ _ _ Zo,(Z' (w.alloc (.cells Y9 173)) _).block _ (by rw [e1];omega)]
 exact Z5 w _
end
theorem Mm {P:Program} {ops:Array Oper} {o:Oper} {a:Act} {w:World} {K:Act→World→Prop} {Q:Exit→Act→World→Prop} {E':Prop} (Ld:o.guard=none) {t e:TypeId} {bytes:Nat} (E:Elem P t e 1 bytes) (x:Operand) (ho:o.op = .buildSlice t 1 #[(0,x)])
  (v:Value) (hx:a.eval x=v) (hv:v.cells=#[v])
  (h:K (a.put o.dst (.slice (some ⟨w,0,none⟩) 1 1)) (w.alloc (.cells #[v] e))):if Region.wanted o (yielded ops a.tmps)=true then Oper.wp P o a w K Q else E':=by
 exact Yx59
theorem NL (b:List UInt8) (p:Int):get b p 2<65536:=by
 unfold get
 split
 ·exact iA qK
 ·decide
theorem xA (b:List UInt8) (p:Int):get b p 1<256:=by
 unfold get
 split
 ·have:=E8 ((b.drop p.toNat).take (1:Int).toNat)
  have h2:((b.drop p.toNat).take (1:Int).toNat).length≤1:=by rw [TU];omega
  exact Px this (Rh (Nat.pow_le_pow_right Zd h2) Zd)
 ·decide
theorem xB (b:List UInt8) (p:Int):get b p 3<16777216:=by
 unfold get
 split
 ·exact iB qK
 ·decide
theorem KZ {w:World} {B:Nat} {e:TypeId} {size:Nat} {v:Value} {n:Nat} {xs:List Value} (h:w.ownsRow B e size v n xs) {g:Nat} {c:Array Value} {f:Nat × Nat} (hg:w.heap[g]?=some (.cells c 173 f)) (he:173≠e) (o:Nat) (u:Value):(w.setCell ⟨g,o,none⟩ u).ownsRow B e size v n xs:=
 Pp h fun j hj=>by
  by_cases cK:j=g
  ·subst cK;exact absurd hg (X4 h he _ _ _ hj)
  ·exact Hk w ⟨g,o,none⟩ _ j cK
theorem wD (v:Value) (n:Nat) (c:List UInt8) (w:World) (hv:Yn w v c) (hn:n≤1000) (h0:n=0) :
  Calls Tryz.prog 117 (Q6 206 (n:Int) v) w fun e w'=>(∃ a,e = .returned a∧TN w' a (XP 206 n c))∧Below w w w':=by
 have CR:=Zh (fun (p q:Int) (w':World) (h:Below w w w')=>RX v c p q w' (hv.below h))
 obtain ⟨ss,Nu⟩:∃ x:Nat,x=get c 0 4:=⟨_,rfl⟩
 have pU:=Zh (fun (w':World) (h:Below w w w')=>CR.o 0 4 w' h)
 rw [←Nu] at pU
 have bss:IntKind.u32.wrap (ss:Int)=(ss:Int):=by have:=Xu c 0;rw [NC];omega
 obtain ⟨md,jr⟩:∃ x:Nat,x=get c 4 4:=⟨_,rfl⟩
 have Cmd:=Zh (fun (w':World) (h:Below w w w')=>CR.o 4 4 w' h)
 rw [←jr] at Cmd
 have bmd:IntKind.u32.wrap (md:Int)=(md:Int):=by have:=Xu c 4;rw [NC];omega
 have HX:Hid (XP 206 n c=⟨206,(ss:Int),0,0,0,0,[],[],(md:Int),[]⟩):=by
  show _=_
  unfold XP
  rw [Nu,jr]
  simp
 generalize XP 206 n c=X at *
 clear Nu jr
 have H1:Hid (GI w (((w.alloc (.cells Y9 173)).alloc (.cells Y9 173)).setRow (w.heap.size+1) ij) Yz6):=GI.start w 206
 have hz:((w.alloc (.cells Y9 173)).alloc (.cells Y9 173)).heap[w.heap.size+1]?=some (.cells Y9 173 (0,0)):=by
  exact uS
 clear hv
 go_enter Tryz.func117,Tryz.ntmps117
 go_upto_region 2 with (with_reducible refine ZY 173 (.tmp 7) (.tmp 11) rfl ?_;refine ZW rfl 173 (.tmp 7) (.tmp 11) rfl rfl (w.heap.size+1) ij rfl rfl 173 Y9 hz Zg Zg Zg ?_)
 clear hz
 generalize ((w.alloc (.cells Y9 173)).alloc (.cells Y9 173)).setRow (w.heap.size+1) ij=w1 at *
 have z1:=cell_of H1.o.Y8 1
 simp only [R9,R8,RT] at z1
 have f1:=ZI H1.o.Y8 1
 go_upto_region 5 with (go_at_call 118;refine (pU.o _ H1.o.YI).mono ?_;rintro e w' ⟨rfl,rfl⟩)
 have H2:Hid (GI w (w1.setCell ⟨w.heap.size+1,1,none⟩ (.int .u32 (ss:Int))) (Qc 206 (ss:Int) 0 0 0 0 none 0 0 none 0 0 0 none 0 0)):=H1.o.set 1 (.int .u32 (ss:Int))
 clear z1 f1
 generalize w1.setCell ⟨w.heap.size+1,1,none⟩ (.int .u32 (ss:Int))=w2 at *
 have z2:=cell_of H2.o.Y8 8
 simp only [R9,R8,RT] at z2
 have f2:=ZI H2.o.Y8 8
 go_upto_region 14 with (go_at_call 118;refine (Cmd.o _ H2.o.YI).mono ?_;rintro e w' ⟨rfl,rfl⟩)
 have H3:Hid (GI w (w2.setCell ⟨w.heap.size+1,8,none⟩ (.int .u32 (md:Int))) (Qc 206 (ss:Int) 0 0 0 0 none 0 0 none 0 0 (md:Int) none 0 0)):=H2.o.set 8 (.int .u32 (md:Int))
 clear z2 f2
 generalize w2.setCell ⟨w.heap.size+1,8,none⟩ (.int .u32 (md:Int))=w3 at *
 subst h0
 go_wp2_with fail
 go_loopw [9] (fun s9 w'=>s9 = .int .i64 0∧w'=w3) (fun _ _=>0)
 case atStart=>exact ⟨rfl,rfl⟩
 case round=>
  obtain ⟨rfl,rfl⟩:=hrel
  have UD:=H3.o.z
  have VD:=H3.o.Y8
  go_wp2_with (first|(with_reducible refine Yp 173 (.tmp 7) rfl ?_;refine Yd rfl 173 (.tmp 7) rfl (w.heap.size+1) rfl 173 (Qc 206 (ss:Int) 0 0 0 0 none 0 0 none 0 0 (md:Int) none 0 0) (0,0) _ VD Tryz.underlying173 rfl Zg ?_)|(with_reducible refine ZY 173 (.tmp 6) (.tmp 125) rfl ?_;refine ZW rfl 173 (.tmp 6) (.tmp 125) rfl rfl w.heap.size (Qc 206 (ss:Int) 0 0 0 0 none 0 0 none 0 0 (md:Int) none 0 0) rfl rfl 173 Y9 UD Zg Zg Zg ?_))
  refine VR (v:= .agg (Qc 206 (ss:Int) 0 0 0 0 none 0 0 none 0 0 (md:Int) none 0 0)) ?_ rfl ?_
  ·exact results_cell_row Zr _ _ w.heap.size 173 (Qc 206 (ss:Int) 0 0 0 0 none 0 0 none 0 0 (md:Int) none 0 0) (0,0) _ Zr (setRow_heap _ _ _ _ _ _ UD) Tryz.underlying173 rfl Zg
  refine ⟨⟨_,rfl,?_⟩,Z0 H3.o.YI (ZB _) _⟩
  rw [HX.o]
  have hr:UY wr ⟨⟨206,(ss:Int),0,0,0,0,[],[],(md:Int),[]⟩,.slice none 0 0,.slice none 0 0,.slice none 0 0⟩:=⟨Row.nil _ _,Row.nil _ _,Row.nil _ _⟩
  have Lf:=UY.setRow hr UD (Qc 206 (ss:Int) 0 0 0 0 none 0 0 none 0 0 (md:Int) none 0 0)
  exact ⟨_,_,_,rfl,Lf.b,Lf.g,Lf.p⟩
end Go.Proofs.By
