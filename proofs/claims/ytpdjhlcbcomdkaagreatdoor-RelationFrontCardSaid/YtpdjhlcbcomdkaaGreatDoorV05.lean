/- Several texts in one: The walks of packages report and rtcp: the small ones; desc.Get. slices.Clone of bytes; the walks of package report's reader. The walks of package rtcp: length; desc.Get. The walk of rtcp.parts. The walk of rtcp.parts: the walk. The walk of rtp.Get. The state of rtp.Get: the result, the shape, the packet. What packages stamp, door, front compute. Plain. Small laws on memory: rows of bytes in a block, what a conversion reads of them. Over any program. Laws of the walk: an array loaded out of the middle of a block; an element of an array value; a row of cells of the call's own. Over any program. -/
import Derived.BigQuiet
import Derived.Deep.QuietTactic
import Derived.Lib.Walk
import Derived.WalkSpells
import Derived.StillTailTactics
import Derived.WalkKit
import Derived.Lib.Hide
import Derived.Lib.ConvBytes
import Derived.Laws.BytesString
import Derived.Lib.IndexBytes
import Derived.Laws.Rows
import Derived.Laws.Cells
import Derived.Test.YtpdjhlcbcomdkaaGreatDoorV01
import Derived.Test.YtpdjhlcbcomdkaaGreatDoorV02
import Derived.Test.YtpdjhlcbcomdkaaGreatDoorV03
import Derived.Test.YtpdjhlcbcomdkaaGreatDoorV04
set_option linter.unusedVariables false
set_option linter.unusedSimpArgs false
set_option linter.unusedSimpArgs false
namespace Go.Proofs.By
open Go.RowKit Go.Proofs.Heap
theorem bel_drewN {B:Nat} {a w:World} (h:Below B a w):∀ q,Below B a (w.drewN q)
 | 0=>h
 | q+1=>(bel_drewN h q).drew
theorem known_any (k:Int) (w:World):Calls Tryz.prog 191 #[.int .i64 k] w fun e w'=>e = .returned (.bool (decide (k=200∨k=201)))∧w=w':=by
 by_cases h0:k=200
 ·subst h0
  go_enter Tryz.func191,Tryz.ntmps191
  go_wp2
  go_ret
  exact ⟨rfl,rfl⟩
 ·by_cases h1:k=201
  ·subst h1
   go_enter Tryz.func191,Tryz.ntmps191
   go_wp2
   go_ret
   exact ⟨rfl,rfl⟩
  ·have HF:Hid (decide (k=200∨k=201)=false):=decide_eq_false (by omega)
   have b0:(k == 200)=false:=by rw [beq_eq_false_iff_ne];exact h0
   have b1:(k == 201)=false:=by rw [beq_eq_false_iff_ne];exact h1
   rw [HF.out]
   clear HF h0 h1
   go_enter Tryz.func191,Tryz.ntmps191
   go_wp2
   go_ret
   exact ⟨rfl,rfl⟩
theorem rsize_any (k n:Nat) (w:World) (hn:n≤1000):Calls Tryz.prog 192 #[.int .i64 (k:Int),.int .i64 (n:Int)] w fun e w'=>e = .returned (.int .i64 (rsize k n:Nat))∧w=w':=by
 by_cases h0:k=200
 ·subst h0
  have HF:Hid (((rsize 200 n:Nat):Int)=8+24*(n:Int)+20):=by show _=_;unfold rsize;rw [if_pos rfl];omega
  rw [HF.out]
  clear HF
  go_enter Tryz.func192,Tryz.ntmps192
  go_wp2
  go_ret
  exact ⟨rfl,rfl⟩
 ·have HF:Hid (((rsize k n:Nat):Int)=8+24*(n:Int)):=by show _=_;unfold rsize;rw [if_neg h0];omega
  have b0:((k:Int) == 200)=false:=by rw [beq_eq_false_iff_ne];omega
  rw [HF.out]
  clear HF h0
  go_enter Tryz.func192,Tryz.ntmps192
  go_wp2
  go_ret
  exact ⟨rfl,rfl⟩
def csize (k n:Nat):Nat:=if k=203 then 4+4*n else if k=205 then 12+4*n else 12
theorem csize_any (k n:Nat) (w:World) (hn:n≤1000):Calls Tryz.prog 182 #[.int .i64 (k:Int),.int .i64 (n:Int)] w fun e w'=>e = .returned (.int .i64 (csize k n:Nat))∧w=w':=by
 by_cases h0:k=203
 ·subst h0
  have HF:Hid (((csize 203 n:Nat):Int)=4+4*(n:Int)):=by show _=_;unfold csize;rw [if_pos rfl];omega
  rw [HF.out]
  clear HF
  go_enter Tryz.func182,Tryz.ntmps182
  go_wp2
  go_ret
  exact ⟨rfl,rfl⟩
 ·have b0:((k:Int) == 203)=false:=by rw [beq_eq_false_iff_ne];omega
  by_cases h1:k=205
  ·subst h1
   have HF:Hid (((csize 205 n:Nat):Int)=12+4*(n:Int)):=by show _=_;unfold csize;rw [if_neg (by decide),if_pos rfl];omega
   rw [HF.out]
   clear HF
   go_enter Tryz.func182,Tryz.ntmps182
   go_wp2
   go_ret
   exact ⟨rfl,rfl⟩
  ·have HF:Hid (((csize k n:Nat):Int)=12):=by show _=_;unfold csize;rw [if_neg h0,if_neg h1];rfl
   have b1:((k:Int) == 205)=false:=by rw [beq_eq_false_iff_ne];omega
   rw [HF.out]
   clear HF h0 h1
   go_enter Tryz.func182,Tryz.ntmps182
   go_wp2
   go_ret
   exact ⟨rfl,rfl⟩
theorem cnumber_any (v:Value) (b:List UInt8) (p:Int) (w:World) (hv:BRow w v b) :
  Calls Tryz.prog 183 #[v,.int .i64 p] w fun e w'=>e = .returned (.int .u32 (get b p 4:Nat))∧w=w':=by
 have CG:=Lib.hid (Get_any v b p 4 w hv)
 have hn:get b p 4<4294967296:=get_lt b p 4 4 (by decide)
 clear hv
 generalize get b p 4=n at *
 go_enter Tryz.func183,Tryz.ntmps183
 go_wp2_with (go_at_call 155;refine CG.out.mono ?_;rintro e w' ⟨rfl,rfl⟩)
 go_ret
 exact ⟨rfl,rfl⟩
theorem ikind_any (v:Value) (b:List UInt8) (w:World) (hv:BRow w v b) (hb:2≤b.length) :
  Calls Tryz.prog 169 #[v] w fun e w'=>e = .returned (.tuple #[.int .i64 ((ikind b).1:Nat),.bool (ikind b).2])∧Below w.heap.size w w':=by
 have hlen:=hv.len
 have HE:Hid (ikind b=if at8 b 1=200∨at8 b 1=201∨at8 b 1=203 then (at8 b 1,true) else if at8 b 1=205∨at8 b 1=206 then (at8 b 1,decide (at8 b 0 % 32=1)) else (0,false)):=rfl
 obtain ⟨g,off,cap,rfl,_,_,hc⟩:=b_at hv (by omega)
 have d0:w.cell? ⟨g,off,none⟩=some (.int .u8 (at8 b 0:Int)):=hc 0 (by omega)
 have d1:=hc 1 (by omega)
 have ha:=and_31 (at8 b 0) (at8_256 b 0)
 have hx1:=at8_256 b 1
 have hbel:=Below.refl w.heap.size w
 clear hc hv
 generalize ikind b=X at *
 generalize at8 b 0 % 32=m at *
 generalize at8 b 1=k at *
 by_cases h1:k=200∨k=201∨k=203
 ·obtain rfl:X=(k,true):=by rw [HE.out,if_pos h1]
  clear HE
  rcases h1 with rfl|rfl|rfl
  all_goals
   go_enter Tryz.func169,Tryz.ntmps169
   go_wp2
   go_ret2
   exact ⟨rfl,hbel⟩
 ·by_cases h2:k=205∨k=206
  ·obtain rfl:X=(k,decide (m=1)):=by rw [HE.out,if_neg h1,if_pos h2]
   clear HE h1
   have HM:Hid (decide (m=1)=((m:Int) == 1)):=by show _=_;rw [Bool.eq_iff_iff];simp;omega
   dsimp only
   rw [HM.out]
   rcases h2 with rfl|rfl
   all_goals
    go_enter Tryz.func169,Tryz.ntmps169
    go_wp2
    go_quiet (fail)
    go_wp2
    go_ret2
    exact ⟨rfl,bel_drewN hbel _⟩
  ·obtain rfl:X=(0,false):=by rw [HE.out,if_neg h1,if_neg h2]
   have b0:((k:Int) == 200)=false:=by rw [beq_eq_false_iff_ne];omega
   have b1:((k:Int) == 201)=false:=by rw [beq_eq_false_iff_ne];omega
   have b3:((k:Int) == 203)=false:=by rw [beq_eq_false_iff_ne];omega
   have b5:((k:Int) == 205)=false:=by rw [beq_eq_false_iff_ne];omega
   have b6:((k:Int) == 206)=false:=by rw [beq_eq_false_iff_ne];omega
   clear HE h1 h2
   go_enter Tryz.func169,Tryz.ntmps169
   go_wp2
   go_ret2
   exact ⟨rfl,hbel⟩
set_option maxHeartbeats 1000000 in
theorem right_any (v:Value) (b:List UInt8) (w:World) (hv:BRow w v b) :
  Calls Tryz.prog 179 #[v] w fun e w'=>e = .returned (.tuple #[.int .i64 ((right b).1:Nat),.int .i64 (right b).2])∧Below w.heap.size w w':=by
 have hlen:=hv.len
 have HE:Hid (right b=if b.length<4 then (0,2) else if at8 b 0 / 32≠4 then (0,1) else if at8 b 1≠200∧at8 b 1≠201 then (0,4) else if 15<at8 b 0 % 32∨(get b 2 2+1)*4≠rsize (at8 b 1) (at8 b 0 % 32) then (0,1) else if b.length<rsize (at8 b 1) (at8 b 0 % 32) then (0,2) else (rsize (at8 b 1) (at8 b 0 % 32),0)):=rfl
 have CG:=Get_any v b 2 2 w hv
 obtain ⟨a,c,rfl,hcc,-⟩:=id hv
 have hbel:=Below.refl w.heap.size w
 generalize right b=X at *
 by_cases h1:b.length<4
 ·obtain rfl:X=(0,2):=by rw [HE.out,if_pos h1]
  clear HE CG hv
  go_enter Tryz.func179,Tryz.ntmps179
  go_wp2
  go_ret2
  exact ⟨rfl,hbel⟩
 obtain ⟨g,off,cap,e1,_,_,hc⟩:=b_at hv (by omega)
 cases e1
 have d0:w.cell? ⟨g,off,none⟩=some (.int .u8 (at8 b 0:Int)):=hc 0 (by omega)
 have d1:=hc 1 (by omega)
 have hx0:=at8_256 b 0
 have hx1:=at8_256 b 1
 have ha:=and_31 (at8 b 0) hx0
 have hn:get b 2 2<65536:=get_lt b 2 2 2 (by decide)
 have l1:decide ((b.length:Int)<4)=false:=decide_eq_false (by omega)
 have HCG:=Lib.hid CG
 clear hc hv CG
 by_cases h2:at8 b 0 / 32≠4
 ·obtain rfl:X=(0,1):=by rw [HE.out,if_neg h1,if_pos h2]
  have q:(((at8 b 0:Nat):Int) / 32 != 4)=true:=by rw [bne_iff_ne];omega
  clear HE h2
  go_enter Tryz.func179,Tryz.ntmps179
  go_wp2
  go_ret2
  exact ⟨rfl,hbel⟩
 have q2:(((at8 b 0:Nat):Int) / 32 != 4)=false:=by rw [bne_eq_false_iff_eq];omega
 have CK:=known_any (at8 b 1:Nat) w
 by_cases h3:at8 b 1≠200∧at8 b 1≠201
 ·obtain rfl:X=(0,4):=by rw [HE.out,if_neg h1,if_neg h2,if_pos h3]
  rw [decide_eq_false (show ¬(((at8 b 1:Nat):Int)=200∨((at8 b 1:Nat):Int)=201) by omega)] at CK
  have HCK:=Lib.hid CK
  clear HE h2 h3 CK
  go_enter Tryz.func179,Tryz.ntmps179
  go_wp2_with (go_at_call 191;refine HCK.out.mono ?_;rintro e w' ⟨rfl,rfl⟩)
  go_ret2
  exact ⟨rfl,hbel⟩
 rw [decide_eq_true (show (((at8 b 1:Nat):Int)=200∨((at8 b 1:Nat):Int)=201) by omega)] at CK
 have HCK:=Lib.hid CK
 have CS:Hid (∀ w,Calls Tryz.prog 192 #[.int .i64 ((at8 b 1:Nat):Int),.int .i64 ((at8 b 0 % 32:Nat):Int)] w fun e w'=>e = .returned (.int .i64 (rsize (at8 b 1) (at8 b 0 % 32):Nat))∧w=w'):=fun w=>rsize_any _ _ w (by omega)
 have hrs:rsize (at8 b 1) (at8 b 0 % 32)≤1000:=by unfold rsize;split <;> omega
 have hm:at8 b 0 % 32<32:=by omega
 have HE4:Hid (X=if 15<at8 b 0 % 32∨(get b 2 2+1)*4≠rsize (at8 b 1) (at8 b 0 % 32) then (0,1) else if b.length<rsize (at8 b 1) (at8 b 0 % 32) then (0,2) else (rsize (at8 b 1) (at8 b 0 % 32),0)):=by show _=_;rw [HE.out,if_neg h1,if_neg h2,if_neg h3]
 clear HE h2 h3 CK
 generalize rsize (at8 b 1) (at8 b 0 % 32)=z at *
 generalize at8 b 0 % 32=m at *
 generalize get b 2 2=n at *
 by_cases h4:15<m∨(n+1)*4≠z
 ·obtain rfl:X=(0,1):=by rw [HE4.out,if_pos h4]
  clear HE4
  by_cases h5:15<m
  ·have q5:decide ((15:Int)<(m:Int))=true:=decide_eq_true (by omega)
   clear h4
   exact Yx37
  ·have q5:decide ((15:Int)<(m:Int))=false:=decide_eq_false (by omega)
   have q6:(((n:Int)+1)*4 != (z:Int))=true:=by rw [bne_iff_ne];omega
   clear h4
   exact Yx37
 ·have q5:decide ((15:Int)<(m:Int))=false:=decide_eq_false (by omega)
  have q6:(((n:Int)+1)*4 != (z:Int))=false:=by rw [bne_eq_false_iff_eq];omega
  have HE5:Hid (X=if b.length<z then (0,2) else (z,0)):=by show _=_;rw [HE4.out,if_neg h4]
  clear HE4 h4
  by_cases h5:b.length<z
  ·obtain rfl:X=(0,2):=by rw [HE5.out,if_pos h5]
   have q7:decide ((b.length:Int)<(z:Int))=true:=decide_eq_true (by omega)
   clear HE5
   exact Yx37
  ·obtain rfl:X=(z,0):=by rw [HE5.out,if_neg h5]
   have q7:decide ((b.length:Int)<(z:Int))=false:=decide_eq_false (by omega)
   clear HE5
   exact Yx37
end Go.Proofs.By
set_option linter.unusedSimpArgs false
namespace Go.Proofs.By
open Go.RowKit Go.Proofs.Heap
set_option maxHeartbeats 1000000 in
theorem BClone_any (v:Value) (l:List UInt8) (w:World) (hv:BRow w v l) (hl:l.length≤1000000) :
  Calls Tryz.prog 154 #[v] w fun e w'=>(∃ v',e = .returned v'∧Row w' 5 v' l.length (bys l))∧Below w.heap.size w w':=by
 obtain ⟨a,cap,rfl,hx1,hx2,hx3,hx4⟩:=id hv
 have HV:=Lib.hid hv
 have HN:=Lib.hid hx3
 clear hv hx4 hx1 hx2 hx3
 cases a with
 | none=>
  obtain ⟨h1,h2⟩:=HN.out rfl
  have HL:Hid (l=[]):=List.eq_nil_of_length_eq_zero h1
  have he:=fun w=>Lib.run_eql_slice_nil (P:=Tryz.prog) w 30 5 none l.length cap 0 0 Tryz.underlying30
  clear h1 h2
  go_enter Tryz.func154,Tryz.ntmps154
  go_wp2
  go_ret
  exact ⟨⟨_,rfl,by rw [HL.out];exact Row.nil _ _⟩,Below.refl _ _⟩
 | some a=>
  have he:=fun w=>Lib.run_eql_slice_nil (P:=Tryz.prog) w 30 5 (some a) l.length cap 0 0 Tryz.underlying30
  clear HN
  go_enter Tryz.func154,Tryz.ntmps154
  go_wp2_with (at_builtin;refine wpList_appR rfl (.tmp 5) (.tmp 6) 30 rfl w.heap.size elemU8 _ 0 [] rfl (owns_empty w 5 1) _ l.length (bys l) rfl (HV.out.below (below_alloc _ _)) (by rw [bys_length];omega) (bys_one l) (by omega) (by omega) (by simp) (fun v' w1 HO HG=>?_))
  go_ret
  have hb:=((Fr.refl w.heap.size NoB w).alloc (Nat.le_refl _) (.cells #[] 5)).grown HG.out (by simp) (by
   intro k hk
   have hk:some w.heap.size=some k:=hk
   cases hk
   exact Nat.le_refl _)
  refine ⟨⟨_,rfl,?_⟩,hb.below⟩
  have:=Row.of_owns HO.out
  rwa [Nat.zero_add,List.nil_append] at this
def EyeAt (w:World) (k:Nat) (v:Value) (p:Nat):Prop:=w.heap[k]?=some (.cells #[v,.int .i64 (p:Int)] 264)
theorem EyeAt.lt {w:World} {k:Nat} {v:Value} {p:Nat} (h:EyeAt w k v p):k<w.heap.size:=by
 rcases Nat.lt_or_ge k w.heap.size with h1|h1
 ·exact h1
 ·unfold EyeAt at h;rw [Array.getElem?_eq_none h1] at h;cases h
theorem EyeAt.cells {w:World} {k:Nat} {v:Value} {p:Nat} (h:EyeAt w k v p):w.cell? ⟨k,0,none⟩=some v∧w.cell? ⟨k,1,none⟩=some (.int .i64 (p:Int))∧w.frozen? ⟨k,1,none⟩=false:=by
 unfold EyeAt at h
 refine ⟨?_,?_,?_⟩
 ·simp only [World.cell?,h];rfl
 ·simp only [World.cell?,h];rfl
 ·simp [World.frozen?,h]
theorem EyeAt.set {w:World} {k:Nat} {v:Value} {p:Nat} (h:EyeAt w k v p) (q:Nat):EyeAt (w.setCell ⟨k,1,none⟩ (.int .i64 (q:Int))) k v q:=by
 unfold EyeAt at h ⊢
 simp [World.setCell,Array.getElem?_modify,h]
theorem heap_drewN (w:World):∀ n,(w.drewN n).heap=w.heap
 | 0=>rfl
 | n+1=>heap_drewN w n
set_option maxHeartbeats 1000000 in
theorem eget_any (k:Nat) (v:Value) (b:List UInt8) (p q:Nat) (w:World) (hE:EyeAt w k v p) (hv:BRow w v b) (hp:p≤100000) (hq:q≤100) :
  Calls Tryz.prog 181 #[.pointer (some ⟨k,0,none⟩),.int .i64 (q:Int)] w fun e w'=>e = .returned (.int .u64 (get b p q:Nat))∧EyeAt w' k v (p+q)∧Fr w.heap.size (· = k) w w':=by
 have CG:Hid (∀ n,Calls Tryz.prog 155 #[v,.int .i64 (p:Int),.int .i64 (q:Int)] (w.drewN n) fun e w'=>e = .returned (.tuple #[.int .u64 (get b p q:Nat),.bool (within b.length p q)])∧w'=w.drewN n):=
  fun n=>(Get_any v b p q (w.drewN n) (hv.below (bel_drewN (Below.refl _ _) n))).mono fun _ _ h=>⟨h.1,h.2.symm⟩
 obtain ⟨c0,c1,f1⟩:=hE.cells
 have HE:=Lib.hid hE
 clear hv hE
 generalize get b p q=n at *
 generalize within b.length p q=x at *
 go_enter Tryz.func181,Tryz.ntmps181
 go_wp2
 go_quiet ((go_at_call 155;exact Calls.quiet_of_same (CG.out _)))
 go_wp2
 go_ret
 refine ⟨rfl,?_,?_⟩
 ·refine EyeAt.set (p:=p) ?_ (p+q)
  unfold EyeAt
  rw [heap_drewN]
  exact HE.out
 ·exact (Fr.of_below _ (bel_drewN (Below.refl _ _) _)).setAt 1 _
theorem eword_any (k:Nat) (v:Value) (b:List UInt8) (p:Nat) (w:World) (hE:EyeAt w k v p) (hv:BRow w v b) (hp:p≤100000) :
  Calls Tryz.prog 180 #[.pointer (some ⟨k,0,none⟩)] w fun e w'=>e = .returned (.int .u32 (get b p 4:Nat))∧EyeAt w' k v (p+4)∧Fr w.heap.size (· = k) w w':=by
 have CG:=Lib.hid (eget_any k v b p 4 w hE hv hp (by omega))
 have hn:get b p 4<4294967296:=get_lt b p 4 4 (by decide)
 clear hv hE
 have CG:Hid (Calls Tryz.prog 181 #[.pointer (some ⟨k,0,none⟩),.int .i64 4] w fun e w'=>e = .returned (.int .u64 (get b p 4:Nat))∧EyeAt w' k v (p+4)∧Fr w.heap.size (· = k) w w'):=CG.out
 generalize get b p 4=n at *
 go_enter Tryz.func180,Tryz.ntmps180
 go_wp2_with (go_at_call 181;refine CG.out.mono ?_;rintro e w' ⟨rfl,he,hf⟩)
 go_ret
 exact ⟨rfl,he,hf⟩
end Go.Proofs.By
set_option linter.unusedSimpArgs false
namespace Go.Proofs.By
open Go.RowKit Go.Proofs.Heap
set_option maxHeartbeats 1000000 in
theorem ilength_any (v:Value) (b:List UInt8) (k:Nat) (w:World) (hv:BRow w v b) (hb:4≤b.length) :
  Calls Tryz.prog 171 #[v,.int .i64 (k:Int)] w fun e w'=>e = .returned (.tuple #[.int .i64 ((ilength b k).1:Nat),.bool (ilength b k).2])∧w=w':=by
 have hlen:=hv.len
 have CG:=Lib.hid (Get_any v b 2 2 w hv)
 have hn:get b 2 2<65536:=get_lt b 2 2 2 (by decide)
 obtain ⟨g,off,cap,rfl,_,_,hc⟩:=b_at hv (by omega)
 have d0:w.cell? ⟨g,off,none⟩=some (.int .u8 (at8 b 0:Int)):=hc 0 (by omega)
 have ha:=and_31 (at8 b 0) (at8_256 b 0)
 have hm:at8 b 0 % 32<32:=by omega
 have HE:Hid (ilength b k=if k=203 then ((get b 2 2+1)*4,decide (1≤at8 b 0 % 32) && decide (at8 b 0 % 32≤15) && decide ((get b 2 2+1)*4=4+4*(at8 b 0 % 32))) else if k=205 then ((get b 2 2+1)*4,decide (16≤(get b 2 2+1)*4) && decide ((get b 2 2+1)*4≤76)) else ((get b 2 2+1)*4,decide ((get b 2 2+1)*4=12))):=rfl
 have hcs:∀ n,csize 203 n=4+4*n:=fun n=>by unfold csize;rw [if_pos rfl]
 clear hc hv
 generalize ilength b k=X at *
 generalize at8 b 0 % 32=m at *
 generalize get b 2 2=n at *
 have en:(((n+1)*4:Nat):Int)=((n:Int)+1)*4:=by omega
 by_cases h0:k=203
 ·subst h0
  have CZ:=csize_any 203 m w (by omega)
  rw [hcs,show ((4+4*m:Nat):Int)=4+4*(m:Int) by omega] at CZ
  have HCZ:=Lib.hid CZ
  have HF:Hid (X=((n+1)*4,decide (1≤m) && decide (m≤15) && decide ((n+1)*4=4+4*m))):=by show _=_;rw [HE.out,if_pos rfl]
  clear HE CZ hcs
  by_cases h1:1≤m
  ·have q1:decide ((1:Int)≤(m:Int))=true:=decide_eq_true (by omega)
   by_cases h2:m≤15
   ·have q2:decide ((m:Int)≤15)=true:=decide_eq_true (by omega)
    have HX:Hid (X=((n+1)*4,(((n:Int)+1)*4 == 4+4*(m:Int)))):=by
     show _=_;rw [HF.out,decide_eq_true h1,decide_eq_true h2];simp only [Bool.true_and];congr 1
     rw [Bool.eq_iff_iff,decide_eq_true_eq,beq_iff_eq];omega
    rw [HX.out]
    dsimp only
    rw [en]
    clear HF HX h1 h2 en
    exact Yx100
   ·have q2:decide ((m:Int)≤15)=false:=decide_eq_false (by omega)
    have HX:Hid (X=((n+1)*4,false)):=by show _=_;rw [HF.out,decide_eq_false h2];simp
    rw [HX.out]
    dsimp only
    rw [en]
    clear HF HX h1 h2 en HCZ
    exact Yx131
  ·have q1:decide ((1:Int)≤(m:Int))=false:=decide_eq_false (by omega)
   have HX:Hid (X=((n+1)*4,false)):=by show _=_;rw [HF.out,decide_eq_false h1];simp
   rw [HX.out]
   dsimp only
   rw [en]
   clear HF HX h1 en HCZ
   exact Yx131
 ·have b0:((k:Int) == 203)=false:=by rw [beq_eq_false_iff_ne];omega
  by_cases h1:k=205
  ·subst h1
   have C1:=csize_any 205 1 w (by omega)
   have C2:=csize_any 205 16 w (by omega)
   rw [show csize 205 1=16 from rfl] at C1
   rw [show csize 205 16=76 from rfl] at C2
   have HC1:=Lib.hid C1
   have HC2:=Lib.hid C2
   have HF:Hid (X=((n+1)*4,decide (16≤(n+1)*4) && decide ((n+1)*4≤76))):=by show _=_;rw [HE.out,if_neg (by decide),if_pos rfl]
   clear HE C1 C2 hcs
   by_cases h2:16≤(n+1)*4
   ·have q1:decide ((16:Int)≤((n:Int)+1)*4)=true:=decide_eq_true (by omega)
    have HX:Hid (X=((n+1)*4,decide (((n:Int)+1)*4≤76))):=by
     show _=_;rw [HF.out,decide_eq_true h2];simp only [Bool.true_and];congr 1;exact decide_eq_decide.2 (by omega)
    rw [HX.out]
    dsimp only
    rw [en]
    clear HF HX h2 en
    go_enter Tryz.func171,Tryz.ntmps171
    go_wp2_with fail
    refine CG.out.mono ?_
    rintro e w' ⟨rfl,rfl⟩
    go_wp2_with fail
    refine HC1.out.mono ?_
    rintro e w' ⟨rfl,rfl⟩
    go_wp2_with fail
    refine HC2.out.mono ?_
    rintro e w' ⟨rfl,rfl⟩
    go_wp2_with fail
    go_ret2
    exact ⟨rfl,rfl⟩
   ·have q1:decide ((16:Int)≤((n:Int)+1)*4)=false:=decide_eq_false (by omega)
    have HX:Hid (X=((n+1)*4,false)):=by show _=_;rw [HF.out,decide_eq_false h2];simp
    rw [HX.out]
    dsimp only
    rw [en]
    clear HF HX h2 en HC2
    go_enter Tryz.func171,Tryz.ntmps171
    go_wp2_with fail
    refine CG.out.mono ?_
    rintro e w' ⟨rfl,rfl⟩
    go_wp2_with fail
    refine HC1.out.mono ?_
    rintro e w' ⟨rfl,rfl⟩
    go_wp2_with fail
    go_ret2
    exact ⟨rfl,rfl⟩
  ·have b1:((k:Int) == 205)=false:=by rw [beq_eq_false_iff_ne];omega
   have CZ:=csize_any k 0 w (by omega)
   rw [show csize k 0=12 by unfold csize;rw [if_neg h0,if_neg h1]] at CZ
   have HCZ:=Lib.hid CZ
   have HX:Hid (X=((n+1)*4,(((n:Int)+1)*4 == 12))):=by
    show _=_;rw [HE.out,if_neg h0,if_neg h1];congr 1
    rw [Bool.eq_iff_iff,decide_eq_true_eq,beq_iff_eq];omega
   rw [HX.out]
   dsimp only
   rw [en]
   clear HE HX h0 h1 en CZ hcs
   exact Yx100
end Go.Proofs.By
set_option linter.unusedSimpArgs false
namespace Go.Proofs.By
open Go.RowKit Go.Proofs.Heap
def u32s (l:List Int):List Value:=l.map (Value.int .u32)
def pairCells (p:Int × Int):List Value:=[.int .u16 p.1,.int .u16 p.2]
def blkCells (x:Blk):List Value:=[.int .u32 x.ssrc,.int .u8 x.lost,.int .u32 x.total,.int .u32 x.high,.int .u32 x.jitter,.int .u32 x.last,.int .u32 x.delay]
theorem elemU32:Elem Tryz.prog 29 66 1 4:=⟨Tryz.underlying29,⟨.int .u32 0,by kernel_rfl,rfl⟩,by decide⟩
theorem elemPair:Elem Tryz.prog 171 226 2 4:=⟨Tryz.underlying171,⟨.agg #[.int .u16 0,.int .u16 0],by kernel_rfl,rfl⟩,by decide⟩
def itmAgg (i:Itm) (bv gv pv:Value):Value:= .agg #[.int .i64 i.kind,.int .u32 i.ssrc,.int .u64 i.ntp,.int .u32 i.time,.int .u32 i.packets,.int .u32 i.octets,bv,gv,.int .u32 i.media,pv]
structure ItmIn (w:World) (v:Value) (i:Itm):Prop where
 ex:∃ bv gv pv,v=itmAgg i bv gv pv∧Row w 228 bv i.blocks.length (i.blocks.flatMap blkCells)∧Row w 66 gv i.gone.length (u32s i.gone)∧Row w 226 pv i.pairs.length (i.pairs.flatMap pairCells)
abbrev itmCells (k s m:Int) (gv pv:Value):Array Value:=#[.int .i64 k,.int .u32 s,.int .u64 0,.int .u32 0,.int .u32 0,.int .u32 0,.slice none 0 0,gv,.int .u32 m,pv]
structure PB (w w':World) (k s m:Int) (gv pv:Value):Prop where
 bel:Below w.heap.size w w'
 blk0:w'.heap[w.heap.size]?=some (.cells (itmCells 0 0 0 (.slice none 0 0) (.slice none 0 0)) 173)
 blk:w'.heap[w.heap.size+1]?=some (.cells (itmCells k s m gv pv) 173)
theorem PB.size {w w':World} {k s m:Int} {gv pv:Value} (h:PB w w' k s m gv pv):w.heap.size+1<w'.heap.size:=by
 rcases Nat.lt_or_ge (w.heap.size+1) w'.heap.size with h1|h1
 ·exact h1
 ·have:=h.blk
  rw [Array.getElem?_eq_none h1] at this;cases this
theorem PB.below {w w1 w':World} {k s m:Int} {gv pv:Value} (h:PB w w1 k s m gv pv) (hb:Below w1.heap.size w1 w'):PB w w' k s m gv pv:=by
 have hs:=h.size
 exact ⟨h.bel.trans (hb.mono (by omega)),by rw [hb.block _ (by omega)];exact h.blk0,by rw [hb.block _ hs];exact h.blk⟩
theorem PB.grown {w w1 w':World} {k s m:Int} {gv pv:Value} (h:PB w w1 k s m gv pv) {row:Option Nat} (hg:w1.grownBy w' row) (hr:∀ j,row=some j→w.heap.size+2≤j):PB w w' k s m gv pv:=by
 have hs:=h.size
 refine ⟨h.bel.trans ⟨hg.os,hg.tape,hg.output,hg.size,fun j hj=>hg.block j (by omega) (fun e=>by have:=hr j e.symm;omega)⟩,?_,?_⟩
 ·rw [hg.block _ (by omega) (fun e=>by have:=hr _ e.symm;omega)];exact h.blk0
 ·rw [hg.block _ hs (fun e=>by have:=hr _ e.symm;omega)];exact h.blk
theorem PB.cell {w w':World} {k s m:Int} {gv pv:Value} (h:PB w w' k s m gv pv) (j:Nat):w'.cell? ⟨w.heap.size+1,j,none⟩=(itmCells k s m gv pv)[j]?:=by
 have:=h.blk
 simp only [World.cell?,this]
 rfl
theorem PB.frozen {w w':World} {k s m:Int} {gv pv:Value} (h:PB w w' k s m gv pv) (j:Nat):w'.frozen? ⟨w.heap.size+1,j,none⟩=false:=by
 have:=h.blk
 simp [World.frozen?,this]
theorem PB.setG {w w':World} {k s m:Int} {gv pv:Value} (h:PB w w' k s m gv pv) (v:Value):PB w (w'.setCell ⟨w.heap.size+1,7,none⟩ v) k s m v pv:=by
 exact Yx145
theorem PB.setP {w w':World} {k s m:Int} {gv pv:Value} (h:PB w w' k s m gv pv) (v:Value):PB w (w'.setCell ⟨w.heap.size+1,9,none⟩ v) k s m gv v:=by
 exact Yx145
theorem PB.start (w:World) (k s m:Int):PB w ((w.alloc (.cells (itmCells 0 0 0 (.slice none 0 0) (.slice none 0 0)) 173)).alloc (.cells (itmCells k s m (.slice none 0 0) (.slice none 0 0)) 173)) k s m (.slice none 0 0) (.slice none 0 0):=
 ⟨((Below.refl _ _).alloc (Nat.le_refl _) _).alloc (by simp) _,(two_new w _ _).1,(two_new w _ _).2⟩
theorem iwords_at (b:List UInt8) (p j:Nat) (hj:j<(b.length-p) / 4):(iwords b p).take (j+1)=(iwords b p).take j++[get b (p+4*j:Nat) 4]:=by
 have hl:j<(iwords b p).length:=by unfold iwords;simpa using hj
 rw [List.take_succ_eq_append_getElem hl]
 congr 2
 simp [iwords]
theorem iwords_len (b:List UInt8) (p:Nat):(iwords b p).length=(b.length-p) / 4:=by unfold iwords;simp
end Go.Proofs.By
set_option linter.unusedSimpArgs false
namespace Go.Proofs.By
open Go.RowKit Go.Proofs.Heap
theorem owns_at {w w':World} {base:Nat} {e:TypeId} {size:Nat} {v:Value} {n:Nat} {xs:List Value} (h:w.ownsRow base e size v n xs) (hb:∀ k,base≤k→k<w.heap.size→w'.heap[k]?=w.heap[k]?):w'.ownsRow base e size v n xs:=by
 obtain ⟨h1,h2⟩:=h
 refine ⟨h1,?_⟩
 rcases h2 with h2|⟨g,cap,cur,hv,hg,hh,r⟩
 ·exact Or.inl h2
 ·have hlt:g<w.heap.size:=by
   rcases Nat.lt_or_ge g w.heap.size with h|h
   ·exact h
   ·rw [Array.getElem?_eq_none h] at hh;cases hh
  exact Or.inr ⟨g,cap,cur,hv,hg,by rw [hb g hg hlt];exact hh,r⟩
theorem owns_set {w:World} {base:Nat} {e:TypeId} {size:Nat} {v:Value} {n:Nat} {xs:List Value} (h:w.ownsRow base e size v n xs) {b o:Nat} (hp:b<base) (u:Value):(w.setCell ⟨b,o,none⟩ u).ownsRow base e size v n xs:=
 owns_at h fun k hk _=>RowKit.Below.heap_setCell _ _ _ _ (by show k≠b;omega)
theorem owns_bel {w w':World} {base:Nat} {e:TypeId} {size:Nat} {v:Value} {n:Nat} {xs:List Value} (h:w.ownsRow base e size v n xs) (hb:Below w.heap.size w w'):w'.ownsRow base e size v n xs:=owns_at h fun k _ hk=>hb.block k hk
theorem owns_ge {base:Nat} {e:TypeId} {size:Nat} {v:Value} {n:Nat} {xs:List Value} {w:World} (h:w.ownsRow base e size v n xs):∀ k,v.ownBlock=some k→base≤k:=by
 intro k hk
 obtain ⟨_,h⟩:=h
 rcases h with ⟨rfl,_⟩|⟨g,cap,cur,rfl,hg,_⟩
 ·cases hk
 ·have hk:some g=some k:=hk
  cases hk;exact hg
theorem rowNew (w:World) (e:TypeId) (n:Nat) (xs:List Value) (hn:n≤maxLen):Row (w.alloc (.cells xs.toArray e)) e (.slice (some ⟨w.heap.size,0,none⟩) n n) n xs:=
 ⟨_,n,rfl,Nat.le_refl _,hn,(fun h=>by cases h),Or.inr ⟨_,0,xs.toArray,(0,0),rfl,heap_new _ _,fun j _=>by simp⟩⟩
theorem PB.frozen0 {w w':World} {k s m:Int} {gv pv:Value} (h:PB w w' k s m gv pv) (j:Nat):w'.frozen? ⟨w.heap.size,j,none⟩=false:=by
 have:=h.blk0
 simp [World.frozen?,this]
theorem PB.cell0 {w w':World} {k s m:Int} {gv pv:Value} (h:PB w w' k s m gv pv) (j:Nat):w'.cell? ⟨w.heap.size,j,none⟩=(itmCells 0 0 0 (.slice none 0 0) (.slice none 0 0))[j]?:=by
 have:=h.blk0
 simp only [World.cell?,this]
 rfl
theorem fr10 (w:World) (k:Nat) (v0 v1 v2 v3 v4 v5 v6 v7 v8 v9:Value):Fr w.heap.size (· = k) w ((((((((((w.setCell ⟨k,0,none⟩ v0).setCell ⟨k,1,none⟩ v1).setCell ⟨k,2,none⟩ v2).setCell ⟨k,3,none⟩ v3).setCell ⟨k,4,none⟩ v4).setCell ⟨k,5,none⟩ v5).setCell ⟨k,6,none⟩ v6).setCell ⟨k,7,none⟩ v7).setCell ⟨k,8,none⟩ v8).setCell ⟨k,9,none⟩ v9):=((((((((((Fr.refl _ _ _).setAt 0 v0).setAt 1 v1).setAt 2 v2).setAt 3 v3).setAt 4 v4).setAt 5 v5).setAt 6 v6).setAt 7 v7).setAt 8 v8).setAt 9 v9
theorem nat_add (a b:Nat):((a+4*b:Nat):Int)=(a:Int)+4*(b:Int):=by omega
set_option maxRecDepth 100000 in
set_option maxHeartbeats 2000000 in
theorem parts_bye (v:Value) (b:List UInt8) (w:World) (hv:BRow w v b) (h4:b.length % 4=0) (hb:b.length≤1000) (hb4:4≤b.length) :
  Calls Tryz.prog 172 #[v,.int .i64 203] w fun e w'=>(∃ a,e = .returned a∧ItmIn w' a (parts b 203))∧Below w.heap.size w w':=by
 have HV:Hid (∀ w',Below w.heap.size w w'→BRow w' v b):=fun w' h=>hv.below h
 have hlen:=hv.len
 obtain ⟨a,c,rfl,hcc,-⟩:=id hv
 obtain ⟨m,hm⟩:∃ m,b.length=4+4*m:=⟨(b.length-4) / 4,by omega⟩
 have HW:Hid (∀ j,j<m→((iwords b 4).take (j+1)).map (fun n:Nat=>(n:Int))=((iwords b 4).take j).map (fun n:Nat=>(n:Int))++[(get b (4+4*(j:Int)) 4:Int)]):=fun j hj=>by
  rw [iwords_at b 4 j (by omega),List.map_append,nat_add];rfl
 have HWL:Hid ((iwords b 4).length=m):=by show _=_;rw [iwords_len];omega
 have HWT:Hid (∀ j,j≤m→(((iwords b 4).take j).map (fun n:Nat=>(n:Int))).length=j):=fun j hj=>by rw [List.length_map,List.length_take,HWL.out];omega
 have HE:Hid (parts b 203={noItm with kind:=203,gone:=(iwords b 4).map fun (n:Nat)=>(n:Int)}):=rfl
 have CN:Hid (∀ w' (j:Nat),Below w.heap.size w w'→Calls Tryz.prog 183 #[.slice a b.length c,.int .i64 (4+4*(j:Int))] w' fun e w1=>e = .returned (.int .u32 (get b (4+4*(j:Int)) 4:Nat))∧w'=w1):=fun w' j h=>cnumber_any _ b _ w' (HV.out w' h)
 have HP0:=Lib.hid (PB.start w 203 0 0)
 clear hv HV
 rw [hm]
 rw [hm] at CN
 have hm1000:m≤250:=by omega
 generalize parts b 203=X at *
 clear hm hlen h4 hb hb4 hcc
 go_enter Tryz.func172,Tryz.ntmps172
 go_wp2
 go_loopw [6] (fun i w'=>∃ (j:Nat) (gv:Value),j≤m∧i = .int .i64 (4+4*(j:Int))∧PB w w' 203 0 0 gv (.slice none 0 0)∧w'.ownsRow (w.heap.size+2) 66 1 gv j (u32s (((iwords b 4).take j).map (fun n:Nat=>(n:Int))))) (fun i _=>4+4*m-(intOf i).toNat)
 case atStart=>exact ⟨0,.slice none 0 0,Nat.zero_le _,rfl,HP0.out,World.ownsRow_nil _ _ _ _⟩
 case round=>
  clear HP0
  obtain ⟨j,gv,hj,rfl,hpb,hown⟩:=hrel
  have HPB:=Lib.hid hpb
  have HOWN:=Lib.hid hown
  have hsz:=hpb.size
  have c7:wr.cell? ⟨w.heap.size+1,7,none⟩=some gv:=hpb.cell 7
  have c5:=hpb.blk
  clear hpb hown
  by_cases hjm:j<m
  ·have CN1:=Lib.hid (CN.out wr j HPB.out.bel)
   have HW1:=Lib.hid (HW.out j hjm)
   have hn:get b (4+4*(j:Int)) 4<4294967296:=get_lt b _ 4 4 (by decide)
   clear c5
   generalize get b (4+4*(j:Int)) 4=n at *
   go_wp2_with (first|(go_at_call 183;refine CN1.out.mono ?_;rintro e w' ⟨rfl,rfl⟩)|(at_builtin;refine wpList_app rfl (.tmp 30) (.tmp 32) 29 rfl (w.heap.size+2) elemU32 gv j _ rfl (HOWN.out.alloc _) _ 1 [.int .u32 (n:Int)] rfl (rowNew wr 66 1 [.int .u32 (n:Int)] (by decide)) rfl (by intro u hu;simp at hu;subst hu;rfl) (by omega) (by omega) Yo16 (fun v' w5 HO HG=>?_);have HPB5:=Lib.hid ((HPB.out.below (below_alloc wr (.cells #[.int .u32 (n:Int)] 66))).grown HG.out (owns_ge HOWN.out));have hz5:=HPB5.out.size;have f7:=HPB5.out.frozen 7;have c75:w5.cell? ⟨w.heap.size+1,7,none⟩=some gv:=HPB5.out.cell 7;obtain ⟨va,vc,hva,-,-⟩:=Row.of_owns HO.out;subst hva))
   go_roundw
   case rel=>exact ⟨j+1,_,by omega,by go_num,HPB5.out.setG _,by rw [HW1.out];exact owns_set (by have:=HO.out;unfold u32s at this ⊢;rw [List.map_append];exact this) (by omega) _⟩
   case measure=>simp [intOf];omega
  ·obtain rfl:j=m:=by omega
   have hrow:=Row.of_owns HOWN.out
   obtain ⟨va,vc,rfl,-,-⟩:=id hrow
   have e0:=HPB.out.cell 0
   have e1:=HPB.out.cell 1
   have e2:=HPB.out.cell 2
   have e3:=HPB.out.cell 3
   have e4:=HPB.out.cell 4
   have e5:=HPB.out.cell 5
   have e6:=HPB.out.cell 6
   have e8:=HPB.out.cell 8
   have e9:=HPB.out.cell 9
   simp only [itmCells,List.getElem?_toArray,List.getElem?_cons_zero,List.getElem?_cons_succ] at e0 e1 e2 e3 e4 e5 e6 e8 e9
   have HROW:=Lib.hid hrow
   have g0:=fun k=>HPB.out.frozen0 k
   have g00:=g0 0
   have z0:=HPB.out.cell0 0
   have g10:=g0 1
   have z1:=HPB.out.cell0 1
   have g20:=g0 2
   have z2:=HPB.out.cell0 2
   have g30:=g0 3
   have z3:=HPB.out.cell0 3
   have g40:=g0 4
   have z4:=HPB.out.cell0 4
   have g50:=g0 5
   have z5:=HPB.out.cell0 5
   have g60:=g0 6
   have z6:=HPB.out.cell0 6
   have g70:=g0 7
   have z7:=HPB.out.cell0 7
   have g80:=g0 8
   have z8:=HPB.out.cell0 8
   have g90:=g0 9
   have z9:=HPB.out.cell0 9
   simp only [itmCells,List.getElem?_toArray,List.getElem?_cons_zero,List.getElem?_cons_succ] at z0 z1 z2 z3 z4 z5 z6 z7 z8 z9
   clear hrow c5 g0
   have HT:Hid ((iwords b 4).take j=iwords b 4):=List.take_of_length_le (by rw [HWL.out];exact Nat.le_refl _)
   have HGL:Hid (((iwords b 4).map (fun n:Nat=>(n:Int))).length=j):=by show _=_;rw [List.length_map];exact HWL.out
   have HK:Hid (∀ w',Fr wr.heap.size (· = w.heap.size) wr w'→(Row w' 66 (.slice va j vc) j (u32s (((iwords b 4).take j).map (fun n:Nat=>(n:Int))))∧Below w.heap.size w w')):=fun w' hf=>
    ⟨HROW.out.fr hf (Nat.le_refl _) (fun k c' fr hk e=>by subst hk;rw [HPB.out.blk0] at e;injection e with e;injection e with _ e _;exact absurd e (by decide)),HPB.out.bel.trans (Fr.below (hf.mono (Nat.le_of_lt (Nat.lt_trans (Nat.lt_succ_self _) hsz)) (fun k hk hs=>by have hs:k=w.heap.size:=hs;omega)))⟩
   go_wp2
   refine bodyPost_ret (v:= .agg #[.int .i64 203,.int .u32 0,.int .u64 0,.int .u32 0,.int .u32 0,.int .u32 0,.slice none 0 0,.slice va j vc,.int .u32 0,.slice none 0 0]) (by simp [results,Tryz.results172,go_sem,z0,z1,z2,z3,z4,z5,z6,z7,z8,z9]) rfl ⟨⟨_,rfl,?_⟩,?_⟩
   ·have h:=HK.out _ (fr10 wr w.heap.size (.int .i64 203) (.int .u32 0) (.int .u64 0) (.int .u32 0) (.int .u32 0) (.int .u32 0) (.slice none 0 0) (.slice va j vc) (.int .u32 0) (.slice none 0 0))
    rw [HT.out] at h
    refine ⟨.slice none 0 0,.slice va j vc,.slice none 0 0,by rw [HE.out];rfl,by rw [HE.out];exact Row.nil _ _,?_,by rw [HE.out];exact Row.nil _ _⟩
    rw [HE.out]
    show Row _ _ _ ((iwords b 4).map (fun n:Nat=>(n:Int))).length _
    rw [HGL.out]
    with_reducible exact h.1
   ·have h:=HK.out _ (fr10 wr w.heap.size (.int .i64 203) (.int .u32 0) (.int .u64 0) (.int .u32 0) (.int .u32 0) (.int .u32 0) (.slice none 0 0) (.slice va j vc) (.int .u32 0) (.slice none 0 0))
    with_reducible exact h.2
end Go.Proofs.By
set_option linter.unusedSimpArgs false
namespace Go.Proofs.By
open Go.RowKit Go.Proofs.Heap
theorem store_rowTo2 {P:Program} {ops:Array Oper} {rest:List Oper} {o:Oper} {a:Act} {w:World} {Q:Exit→Act→World→Prop} (hgd:o.guard=none) (ty:TypeId) (x y:Operand) (ho:o.op = .store ty x y)
  (hd:o.dst=none) (g:Nat) (cells:Array Value) (hx:a.eval x = .pointer (some ⟨g,0,none⟩)) (hy:a.eval y = .agg cells)
  (t:TypeId) (old:Array Value) (hg:w.heap[g]?=some (.cells old t (0,0))) (hi:(P.info? ty).map (·.size)=some cells.size)
  (hold:old.size=cells.size) (h1:cells.all (·.oneCell')=true)
  (h:wpList P ops Q rest a (w.setRow g cells)):wpList P ops Q (o :: rest) a w:=
 Go.wpList_store_row hgd ty x y ho g cells hx hy t old hg hi hold h1 (by rw [hd];exact h)
theorem store_at {P:Program} {ops:Array Oper} {rest:List Oper} {o:Oper} {a:Act} {w:World} {Q:Exit→Act→World→Prop} (ty:TypeId) (x y:Operand) (_:o.op = .store ty x y) (h:wpList P ops Q (o :: rest) a w):wpList P ops Q (o :: rest) a w:=h
def pktAgg (p:Pkt) (cv ev pv:Value):Value:= .agg #[.bool p.marker,.int .i64 p.type,.int .u16 p.seq,.int .u32 p.time,.int .u32 p.ssrc,cv,.bool p.hasExt,.int .u16 p.profile,ev,pv,.int .i64 p.pad]
structure PktIn (w:World) (v:Value) (p:Pkt):Prop where
 ex:∃ cv ev pv,v=pktAgg p cv ev pv∧Row w 66 cv p.csrc.length (u32s p.csrc)∧Row w 5 ev p.ext.length (bys p.ext)∧Row w 5 pv p.payload.length (bys p.payload)
theorem cell_of {w:World} {b:Nat} {cs:Array Value} {e:TypeId} (h:w.heap[b]?=some (.cells cs e)) (j:Nat):w.cell? ⟨b,j,none⟩=cs[j]?:=by
 simp only [World.cell?,h]
 rfl
theorem frozen_of {w:World} {b:Nat} {cs:Array Value} {e:TypeId} (h:w.heap[b]?=some (.cells cs e)) (j:Nat):w.frozen? ⟨b,j,none⟩=false:=by
 simp [World.frozen?,h]
set_option maxRecDepth 100000 in
set_option maxHeartbeats 2000000 in
theorem rtpGet_err (v:Value) (b:List UInt8) (w:World) (hv:BRow w v b) (h0:(looks b).2≠0) :
  Calls Tryz.prog 125 #[v] w fun e w'=>(∃ a,e = .returned (.tuple #[a,.int .i64 (rtpGet b).2])∧PktIn w' a (rtpGet b).1)∧Below w.heap.size w w':=by
 have HX:Hid (rtpGet b=(noPkt,(looks b).2)):=by show _=_;unfold rtpGet;rw [if_pos h0]
 have C:=fun w1 h=>look_any v b w1 (hv.below (h:Below w.heap.size w w1))
 have HC:=Lib.hid C
 obtain ⟨a,c,rfl,hcc,-⟩:=id hv
 clear C hv
 have bl:((looks b).2 != 0)=true:=by rw [bne_iff_ne];exact h0
 have bl2:((looks b).2 == 0)=false:=by rw [beq_eq_false_iff_ne];exact h0
 generalize rtpGet b=X at *
 generalize looks b=Y at *
 go_enter Tryz.func125,Tryz.ntmps125
 go_wp2_with fail
 refine (HC.out _ (below_alloc _ _)).mono ?_
 rintro e w2 ⟨rfl,hb2⟩
 have z0:=hb2.block w.heap.size Yo11
 rw [heap_new] at z0
 have zz:w.heap.size+1≤w2.heap.size:=by have h:=hb2.size;have h:(w.heap.push _).size≤w2.heap.size:=h;rw [Array.size_push] at h;exact h
 have y0:=((below_alloc w2 (.cells #[.int .i64 (Y.1.1:Nat),.int .i64 (Y.1.2.1:Nat),.int .i64 (Y.1.2.2:Nat)] 238)).block w.heap.size (by omega)).trans z0
 have z1:=cell_of y0 0
 have z2:=cell_of y0 1
 have z3:=cell_of y0 2
 have z4:=cell_of y0 3
 have z5:=cell_of y0 4
 have z6:=cell_of y0 5
 have z7:=cell_of y0 6
 have z8:=cell_of y0 7
 have z9:=cell_of y0 8
 have z10:=cell_of y0 9
 have z11:=cell_of y0 10
 simp only [List.getElem?_toArray,List.getElem?_cons_zero,List.getElem?_cons_succ] at z1 z2 z3 z4 z5 z6 z7 z8 z9 z10 z11
 have hself:=fun (R:World→Prop) (h:R (w2.alloc (.cells #[.int .i64 (Y.1.1:Nat),.int .i64 (Y.1.2.1:Nat),.int .i64 (Y.1.2.2:Nat)] 238)))=>(by rw [setRow_self _ _ _ _ _ y0];exact h:R ((w2.alloc (.cells #[.int .i64 (Y.1.1:Nat),.int .i64 (Y.1.2.1:Nat),.int .i64 (Y.1.2.2:Nat)] 238)).setRow w.heap.size Yz3a))
 have HS:=Lib.hid hself
 clear hself z0 HC
 go_wp2_with (with_reducible refine store_at 79 (.tmp 2) (.tmp 15) rfl ?_;go_loud (refine store_rowTo2 rfl 79 (.tmp 2) (.tmp 15) rfl rfl w.heap.size Yz3a rfl rfl 79 _ y0 Yo3 Yo3 Yo3 ?_;refine HS.out _ ?_))
 refine bodyPost_ret (v:= .tuple #[.agg Yz3a,.int .i64 Y.2]) (by simp [results,Tryz.results125,go_sem,z1,z2,z3,z4,z5,z6,z7,z8,z9,z10,z11]) rfl ⟨⟨_,by rw [HX.out],?_⟩,?_⟩
 ·exact ⟨.slice none 0 0,.slice none 0 0,.slice none 0 0,by rw [HX.out];rfl,by rw [HX.out];exact Row.nil _ _,by rw [HX.out];exact Row.nil _ _,by rw [HX.out];exact Row.nil _ _⟩
 ·have h3:=below_alloc w2 (.cells #[.int .i64 (Y.1.1:Nat),.int .i64 (Y.1.2.1:Nat),.int .i64 (Y.1.2.2:Nat)] 238)
  have h4:=h3.mono (show w.heap.size≤w2.heap.size by omega)
  have h5:=hb2.mono (show w.heap.size≤(w.heap.push _).size by rw [Array.size_push];exact Nat.le_succ _)
  exact ((below_alloc w _).trans h5).trans h4
end Go.Proofs.By
set_option linter.unusedSimpArgs false
namespace Go.Proofs.By
open Go.RowKit Go.Proofs.Heap
theorem looks_ok {b:List UInt8} (h:(looks b).2=0):12≤b.length∧b.length≤512∧12≤(looks b).1.1∧(looks b).1.1≤(looks b).1.2.1∧(looks b).1.2.1≤(looks b).1.2.2∧(looks b).1.2.2≤b.length:=by
 unfold looks at h ⊢
 by_cases h1:512<b.length
 ·rw [if_pos h1] at h;cases h
 rw [if_neg h1] at h ⊢
 by_cases h2:b.length<12
 ·rw [if_pos h2] at h;cases h
 rw [if_neg h2] at h ⊢
 by_cases h3:at8 b 0 / 64≠2
 ·rw [if_pos h3] at h;cases h
 rw [if_neg h3] at h ⊢
 by_cases h4:192≤at8 b 1∧at8 b 1≤223
 ·rw [if_pos h4] at h;cases h
 rw [if_neg h4] at h ⊢
 dsimp only at h ⊢
 have hE:(extn b (12+4*(at8 b 0 % 16))).2=true→12≤(extn b (12+4*(at8 b 0 % 16))).1.1∧(extn b (12+4*(at8 b 0 % 16))).1.1≤(extn b (12+4*(at8 b 0 % 16))).1.2∧(extn b (12+4*(at8 b 0 % 16))).1.2≤b.length:=by
  unfold extn
  by_cases g:at8 b 0 / 16 % 2=0
  ·rw [if_pos g]
   intro h
   have h:=of_decide_eq_true h
   exact ⟨Nat.le_add_right _ _,Nat.le_refl _,h⟩
  ·rw [if_neg g]
   intro h
   have h:=(Bool.and_eq_true _ _).mp h
   have h:=of_decide_eq_true h.2
   exact ⟨by show 12≤12+4*(at8 b 0 % 16)+4;omega,Nat.le_add_right _ _,h⟩
 generalize extn b (12+4*(at8 b 0 % 16))=x at *
 by_cases h5:x.2=false
 ·rw [if_pos h5] at h;cases h
 rw [if_neg h5] at h ⊢
 obtain ⟨e1,e2,e3⟩:=hE (by simpa using h5)
 have hP:(padd b (b.drop x.1.2)).2=true→(padd b (b.drop x.1.2)).1≤b.length-x.1.2:=by
  unfold padd
  by_cases g:at8 b 0 / 32 % 2=0
  ·rw [if_pos g];intro _;exact Nat.zero_le _
  rw [if_neg g]
  by_cases g2:(b.drop x.1.2).length=0
  ·rw [if_pos g2];intro h;cases h
  rw [if_neg g2]
  dsimp only
  by_cases g3:at8 (b.drop x.1.2) ((b.drop x.1.2).length-1)=0∨(b.drop x.1.2).length<at8 (b.drop x.1.2) ((b.drop x.1.2).length-1)
  ·rw [if_pos g3];intro h;cases h
  rw [if_neg g3]
  have hl:(b.drop x.1.2).length=b.length-x.1.2:=List.length_drop
  split
  ·intro _;show at8 _ _≤_;omega
  ·intro h;cases h
 generalize padd b (b.drop x.1.2)=y at *
 by_cases h6:y.2=false
 ·rw [if_pos h6] at h;cases h
 rw [if_neg h6]
 have:=hP (by simpa using h6)
 exact ⟨by omega,by omega,e1,e2,by show x.1.2≤b.length-y.1;omega,by show b.length-y.1≤b.length;omega⟩
theorem hp_lt {w:World} {g:Nat} {o:Obj} (h:w.heap[g]?=some o):g<w.heap.size:=by
 rcases Nat.lt_or_ge g w.heap.size with h1|h1
 ·exact h1
 ·rw [Array.getElem?_eq_none h1] at h;cases h
theorem hp_set {w:World} {g:Nat} {c:Array Value} {t:TypeId} {f:Nat × Nat} (h:w.heap[g]?=some (.cells c t f)) (o:Nat) (u:Value):(w.setCell ⟨g,o,none⟩ u).heap[g]?=some (.cells (c.setIfInBounds o u) t f):=by
 simp [World.setCell,Array.getElem?_modify,h]
theorem fr_setRow (w:World) (g:Nat) (c:Array Value):Fr w.heap.size (· = g) w (w.setRow g c):=
 ⟨rfl,rfl,rfl,by simp [World.setRow],fun k _ hk=>setRow_other w g k _ (fun e=>hk e)⟩
theorem Row.setRow {w:World} {e:TypeId} {v:Value} {n:Nat} {xs:List Value} (h:Row w e v n xs) {g:Nat} {c:Array Value} {t:TypeId} {f:Nat × Nat} (hg:w.heap[g]?=some (.cells c t f)) (hne:e≠t) (c':Array Value):Row (w.setRow g c') e v n xs:=
 h.fr (fr_setRow w g c') (Nat.le_refl _) (fun k _ _ hk=>by have hk:k=g:=hk;rw [hk,hg];intro h;injection h with h;injection h with _ h;exact hne h.symm)
def zpkt:List Value:=Yz3
structure PK (w w':World) (s p:Nat) (sh cs:List Value):Prop where
 bel:Below w.heap.size w w'
 res:w'.heap[w.heap.size]?=some (.cells zpkt.toArray 79)
 shp:w'.heap[s]?=some (.cells sh.toArray 238)
 blk:w'.heap[p]?=some (.cells cs.toArray 79)
 lt:w.heap.size<s∧s<p
theorem PK.klt {w w':World} {s p:Nat} {sh cs:List Value} (h:PK w w' s p sh cs):p<w'.heap.size:=hp_lt h.blk
theorem PK.cell {w w':World} {s p:Nat} {sh cs:List Value} (h:PK w w' s p sh cs) (j:Nat):w'.cell? ⟨p,j,none⟩=cs[j]?:=by
 rw [cell_of h.blk j];exact List.getElem?_toArray
theorem PK.frozen {w w':World} {s p:Nat} {sh cs:List Value} (h:PK w w' s p sh cs) (j:Nat):w'.frozen? ⟨p,j,none⟩=false:=frozen_of h.blk j
theorem PK.scell {w w':World} {s p:Nat} {sh cs:List Value} (h:PK w w' s p sh cs) (j:Nat):w'.cell? ⟨s,j,none⟩=sh[j]?:=by
 rw [cell_of h.shp j];exact List.getElem?_toArray
theorem PK.drew {w w':World} {s p:Nat} {sh cs:List Value} (h:PK w w' s p sh cs):PK w w'.drew s p sh cs:=⟨h.bel.drew,h.res,h.shp,h.blk,h.lt⟩
theorem PK.below {w w1 w':World} {s p:Nat} {sh cs:List Value} (h:PK w w1 s p sh cs) (hb:Below w1.heap.size w1 w'):PK w w' s p sh cs:=by
 have hk:=h.klt
 have hl:=h.lt
 refine ⟨h.bel.trans (hb.mono (by omega)),?_,?_,?_,hl⟩
 ·rw [hb.block _ (by omega)];exact h.res
 ·rw [hb.block _ (by omega)];exact h.shp
 ·rw [hb.block _ (by omega)];exact h.blk
theorem PK.set {w w':World} {s p:Nat} {sh cs:List Value} (h:PK w w' s p sh cs) (j:Nat) (u:Value):PK w (w'.setCell ⟨p,j,none⟩ u) s p sh (cs.set j u):=by
 have hl:=h.lt
 refine ⟨h.bel.setCell (p:=⟨p,j,none⟩) (by show w.heap.size≤p;omega) u,?_,?_,?_,hl⟩
 ·rw [RowKit.Below.heap_setCell _ _ _ _ (by show w.heap.size≠p;omega)];exact h.res
 ·rw [RowKit.Below.heap_setCell _ _ _ _ (by show s≠p;omega)];exact h.shp
 ·rw [hp_set h.blk j u];simp
theorem PK.grown {w w1 w':World} {s p:Nat} {sh cs:List Value} (h:PK w w1 s p sh cs) {row:Option Nat} (hg:w1.grownBy w' row) (hr:∀ j,row=some j→p<j):PK w w' s p sh cs:=by
 have hk:=h.klt
 have hl:=h.lt
 refine ⟨h.bel.trans ⟨hg.os,hg.tape,hg.output,hg.size,fun i hi=>hg.block i (by omega) (fun e=>by have:=hr i e.symm;omega)⟩,?_,?_,?_,hl⟩
 ·rw [hg.block _ (by omega) (fun e=>by have:=hr _ e.symm;omega)];exact h.res
 ·rw [hg.block _ (by omega) (fun e=>by have:=hr _ e.symm;omega)];exact h.shp
 ·rw [hg.block _ hk (fun e=>by have:=hr _ e.symm;omega)];exact h.blk
theorem PK.row {w w':World} {s p:Nat} {sh cs:List Value} (h:PK w w' s p sh cs) (cs':List Value):PK w (w'.setRow (p) cs'.toArray) s p sh cs':=by
 have hl:=h.lt
 have hf:=fr_setRow w' (p) cs'.toArray
 have hk:=h.klt
 refine ⟨h.bel.trans (Fr.below (hf.mono (show w.heap.size≤w'.heap.size by omega) (fun j hj hs=>by have hs:j=p:=hs;omega))),?_,?_,setRow_heap _ _ _ _ _ _ h.blk,hl⟩
 ·rw [hf.block _ (by omega) (fun hs=>by have hs:w.heap.size=p:=hs;omega)];exact h.res
 ·rw [hf.block _ (by omega) (fun hs=>by have hs:s=p:=hs;omega)];exact h.shp
structure PL (w w':World) (s p:Nat) (sh cs:List Value) (cv:Value) (j:Nat) (xs:List Value):Prop where
 pk:PK w w' s p sh cs
 own:w'.ownsRow (p+1) 66 1 cv j xs
theorem PL.grown {w w1 w':World} {s p:Nat} {sh cs:List Value} {cv:Value} {j:Nat} {xs:List Value} (h:PL w w1 s p sh cs cv j xs) (hg:w1.grownBy w' cv.ownBlock):PK w w' s p sh cs:=
 h.pk.grown hg (fun i hi=>by have:=owns_ge h.own i hi;omega)
structure PR (w w':World) (s p:Nat) (sh cs:List Value) (cv ev pv:Value) (xs:List Int) (es ps:List UInt8):Prop where
 pk:PK w w' s p sh cs
 csr:Row w' 66 cv xs.length (u32s xs)
 exr:Row w' 5 ev es.length (bys es)
 pyl:Row w' 5 pv ps.length (bys ps)
theorem PR.below {w w1 w':World} {s p:Nat} {sh cs:List Value} {cv ev pv:Value} {xs:List Int} {es ps:List UInt8} (h:PR w w1 s p sh cs cv ev pv xs es ps) (hb:Below w1.heap.size w1 w'):PR w w' s p sh cs cv ev pv xs es ps:=
 ⟨h.pk.below hb,h.csr.below hb,h.exr.below hb,h.pyl.below hb⟩
theorem PR.drew {w w1:World} {s p:Nat} {sh cs:List Value} {cv ev pv:Value} {xs:List Int} {es ps:List UInt8} (h:PR w w1 s p sh cs cv ev pv xs es ps):PR w w1.drew s p sh cs cv ev pv xs es ps:=
 h.below (Below.refl _ _).drew
theorem PR.set {w w1:World} {s p:Nat} {sh cs:List Value} {cv ev pv:Value} {xs:List Int} {es ps:List UInt8} (h:PR w w1 s p sh cs cv ev pv xs es ps) (j:Nat) (u:Value):PR w (w1.setCell ⟨p,j,none⟩ u) s p sh (cs.set j u) cv ev pv xs es ps:=
 ⟨h.pk.set j u,h.csr.setCell (p:=⟨p,j,none⟩) h.pk.blk (by decide) u,h.exr.setCell (p:=⟨p,j,none⟩) h.pk.blk (by decide) u,h.pyl.setCell (p:=⟨p,j,none⟩) h.pk.blk (by decide) u⟩
end Go.Proofs.By
namespace Go.Proofs.By
open Go.Proofs.Rm (Room Turn inn of goneOp joined doo hears)
def outOf (p s:Int):Int:=if inn p 9 && inn s 9 then 3221225472+(256*p+s) else 0
def whose (x:Int):Int × Int × Bool:=
 if inn ((x+1073741824) % 4294967296 / 256) 9 && inn ((x+1073741824) % 4294967296 % 256) 9 then ((x+1073741824) % 4294967296 / 256,(x+1073741824) % 4294967296 % 256,true) else (0,0,false)
theorem inn_iff {n m:Int}:inn n m=true↔1≤n∧n<m:=by unfold inn;simp
def owned (R:Room) (peer x:Int):Bool:=(of R x).2.2 && decide ((R.src (of R x).1.toNat).own=peer)
def heardBy (R:Room) (peer x:Int):Bool:=(whose x).2.2 && decide ((whose x).1=peer) && hears R peer (whose x).2.1
def cnt (e:Int):Int:=if e=0 then 0 else 1
def goneAll (peer:Int):List Int→Room→(List Turn × Room) × Int
 | [],R=>(([],R),0)
 | x :: l,R=>
  (((goneOp R peer x).1.1++(goneAll peer l (goneOp R peer x).1.2).1.1,(goneAll peer l (goneOp R peer x).1.2).1.2),cnt (goneOp R peer x).2+(goneAll peer l (goneOp R peer x).1.2).2)
theorem goneAll_snoc (peer x:Int):∀ (l:List Int) (R:Room),
  goneAll peer (l++[x]) R=(((goneAll peer l R).1.1++(goneOp (goneAll peer l R).1.2 peer x).1.1,(goneOp (goneAll peer l R).1.2 peer x).1.2),(goneAll peer l R).2+cnt (goneOp (goneAll peer l R).1.2 peer x).2)
 | [],R=>by simp only [goneAll,List.nil_append,List.append_nil,Int.add_zero,Int.zero_add]
 | y :: l,R=>by
  have ih:=goneAll_snoc peer x l (goneOp R peer y).1.2
  rw [List.cons_append]
  unfold goneAll
  rw [ih]
  simp only [List.append_assoc,Int.add_assoc]
def itemDo (R:Room) (peer:Int) (i:Itm):(List Turn × Room) × Int:=
 if i.kind=200 then (([],R),if owned R peer i.ssrc then 0 else 1)
 else if i.kind=205∨i.kind=206 then (([],R),if heardBy R peer i.media then 0 else 1)
 else if i.kind=203 then goneAll peer i.gone R
 else (([],R),0)
def itemsDo (peer:Int):List Itm→Room→(List Turn × Room) × Int
 | [],R=>(([],R),0)
 | x :: l,R=>(((itemDo R peer x).1.1++(itemsDo peer l (itemDo R peer x).1.2).1.1,(itemsDo peer l (itemDo R peer x).1.2).1.2),(itemDo R peer x).2+(itemsDo peer l (itemDo R peer x).1.2).2)
theorem itemsDo_snoc (peer:Int) (x:Itm):∀ (l:List Itm) (R:Room),
  itemsDo peer (l++[x]) R=(((itemsDo peer l R).1.1++(itemDo (itemsDo peer l R).1.2 peer x).1.1,(itemDo (itemsDo peer l R).1.2 peer x).1.2),(itemsDo peer l R).2+(itemDo (itemsDo peer l R).1.2 peer x).2)
 | [],R=>by simp only [itemsDo,List.nil_append,List.append_nil,Int.add_zero,Int.zero_add]
 | y :: l,R=>by
  have ih:=itemsDo_snoc peer x l (itemDo R peer y).1.2
  rw [List.cons_append]
  unfold itemsDo
  rw [ih]
  simp only [List.append_assoc,Int.add_assoc]
structure Adm where
 kind:Int
 source:Int
 epoch:Int
 err:Int
deriving DecidableEq
structure Taken where
 adm:Adm
 pkt:Pkt
 dsc:Dsc
 items:List Itm
 turns:List Turn
 unknown:Int
def noTaken:Taken:=⟨⟨0,0,0,0⟩,noPkt,noDsc,[],[],0⟩
def refusedT (kind err:Int):Taken:={noTaken with adm:=⟨kind,0,0,err⟩}
def mediaT (R:Room) (ep peer:Int) (p:Pkt) (d:Dsc):Taken:=
 if owned R peer p.ssrc && decide ((of R p.ssrc).2.1=d.layer) then {noTaken with adm:=⟨1,(of R p.ssrc).1,ep,0⟩,pkt:=p,dsc:=d} else refusedT 5 0
def feedT (ep:Int) (l:List Itm) (ts:List Turn) (u:Int):Taken:={noTaken with adm:=⟨2,0,ep,0⟩,items:=l,turns:=ts,unknown:=u}
def datagram (R:Room) (ep peer:Int) (b:List UInt8):(Taken × Room) × Int:=
 if (sift b).2≠0 then ((refusedT 3 (sift b).2,R),ep)
 else if !joined R peer then ((refusedT 4 0,R),ep)
 else match (sift b).1 with
  | .media p d=>((mediaT R ep peer p d,R),ep)
  | .feedback l=>((feedT (ep+1) l (itemsDo peer l R).1.1 (itemsDo peer l R).2,(itemsDo peer l R).1.2),ep+1)
  | .none=>((feedT (ep+1) [] [] 0,R),ep+1)
def take (R:Room) (ep:Int) (o:Rm.Op) (b:List UInt8) (sv:Value):(Taken × Room) × Int:=
 if o.kind=1 then datagram R ep o.peer b
 else if (doo R o sv).2≠0 then ((refusedT 6 (doo R o sv).2,R),ep)
 else ((feedT (ep+1) [] (doo R o sv).1.1 0,(doo R o sv).1.2),ep+1)
end Go.Proofs.By
namespace Go.Proofs.Mem
open Go.RowKit Go.Lib
def str (l:List UInt8):ByteArray:=⟨l.toArray⟩
theorem str_size (l:List UInt8):(str l).size=l.length:=by simp [str,ByteArray.size]
theorem str_eq (s:ByteArray):str s.data.toList=s:=by cases s;rfl
def ByteRow (w:World) (b off:Nat) (m:List UInt8):Prop:=
 ∀ j,j<m.length→w.cell? ⟨b,off+j,none⟩=some (.int .u8 (m.getD j 0).toNat)∧w.frozen? ⟨b,off+j,none⟩=false
theorem row_new (w:World) (e:TypeId) (s:ByteArray):ByteRow (bytesWorld w e s) w.heap.size 0 s.data.toList:=by
 intro j hj
 rw [Nat.zero_add]
 rw [←Lib.size_eq] at hj
 refine ⟨bytesWorld_cell w e s j hj,?_⟩
 simp only [World.frozen?,bytesWorld_at_new,bytesCells]
 simp
 intro h
 have:s.data.size=s.size:=rfl
 omega
end Go.Proofs.Mem
namespace Go.Proofs.Load
open Go
section
variable {P:Program}
theorem run_load_part (w:World) (g off:Nat) (ty:TypeId) (cs:Array Value) (d:TypeDesc) (hc:∀ j,j<cs.size→w.cell? ⟨g,off+j,none⟩=cs[j]?)
  (hu:P.underlying ty=some d) (hd:(match d with | .struct _ | .array _ _=>true|_=>false)=true) (hi:(P.info? ty).map (·.size)=some cs.size) :
  (loadVar ty ⟨g,off,none⟩).run P w = .ok (.agg cs) w:=by
 have hl:(loadCells ⟨g,off,none⟩ cs.toList.length).run P w = .ok cs.toList.toArray w:=
  run_loadCells_list (P:=P) w ⟨g,off,none⟩ cs.toList (fun j v hv=>by
   have hj:j<cs.size:=by
    have:=(List.getElem?_eq_some_iff.1 hv).1
    simpa using this
   have hadd:(⟨g,off,none⟩:Addr).add j=⟨g,off+j,none⟩:=by unfold Addr.add;split <;> simp_all
   rw [hadd,hc j hj]
   simpa using hv)
 cases hq:P.info? ty with
 | none=>simp [hq] at hi
 | some i=>
  have hs:i.size=cs.size:=by simpa [hq] using hi
  have hagg:(isAgg ty).run P w = .ok true w:=by
   unfold isAgg
   rw [Sem.run_bind,run_underlying hu w]
   cases d <;> simp_all
  simp only [Array.length_toList,Array.toArray_toList] at hl
  simp [loadVar,Sem.run_bind,hagg,sizeOf,typeInfo,hq,hs,hl]
theorem wp_load_part {o:Oper} {a:Act} {w:World} {K:Act→World→Prop} {Q:Exit→Act→World→Prop} (ty:TypeId) (x:Operand) (ho:o.op = .load ty x)
  (g off:Nat) (hx:a.eval x = .pointer (some ⟨g,off,none⟩)) (cs:Array Value) (d:TypeDesc) (hc:∀ j,j<cs.size→w.cell? ⟨g,off+j,none⟩=cs[j]?)
  (hu:P.underlying ty=some d) (hd:(match d with | .struct _ | .array _ _=>true|_=>false)=true) (hi:(P.info? ty).map (·.size)=some cs.size)
  (h:K (a.put o.dst (.agg cs)) w):o.wp P a w K Q:=by
 unfold Oper.wp execOp
 simp only [ho,hx,Instr.loadAt,Instr.sureAddr,Sem.run_bind,Sem.run_pure,Result.andThen_ok,run_load_part w g off ty cs d hc hu hd hi]
 exact h
theorem wpList_load_part {ops:Array Oper} {rest:List Oper} {o:Oper} {a:Act} {w:World} {Q:Exit→Act→World→Prop} (hgd:o.guard=none) (ty:TypeId) (x:Operand) (ho:o.op = .load ty x)
  (g off:Nat) (hx:a.eval x = .pointer (some ⟨g,off,none⟩)) (cs:Array Value) (d:TypeDesc) (hc:∀ j,j<cs.size→w.cell? ⟨g,off+j,none⟩=cs[j]?)
  (hu:P.underlying ty=some d) (hd:(match d with | .struct _ | .array _ _=>true|_=>false)=true) (hi:(P.info? ty).map (·.size)=some cs.size)
  (h:wpList P ops Q rest (a.put o.dst (.agg cs)) w):wpList P ops Q (o :: rest) a w:=
 wpList_plain hgd fun _ hK=>wp_load_part ty x ho g off hx cs d hc hu hd hi (hK _ _ h)
theorem run_index_agg (w:World) (t e:TypeId) (n:Nat) (cs:Array Value) (i sz:Nat) (d:TypeDesc) (h:P.underlying t=some (.array n e)) (hi:i<n)
  (hu:P.underlying e=some d) (hd:(match d with | .struct _ | .array _ _=>true|_=>false)=true) (hs:(P.info? e).map (·.size)=some sz) (ys:Array Value) (hy:cs.extract (i*sz) (i*sz+sz)=ys) :
  (Instr.index t (.agg cs) (.int .i64 (i:Int))).run P w = .ok (.agg ys) w:=by
 cases hq:P.info? e with
 | none=>simp [hq] at hs
 | some q=>
  have hs':q.size=sz:=by simpa [hq] using hs
  have hagg:(isAgg e).run P w = .ok true w:=by
   unfold isAgg
   rw [Sem.run_bind,run_underlying hu w]
   cases d <;> simp_all
  exact Yx141
theorem run_index_cell (w:World) (t e:TypeId) (n:Nat) (cs:Array Value) (i:Nat) (d:TypeDesc) (h:P.underlying t=some (.array n e)) (hi:i<n)
  (hu:P.underlying e=some d) (hd:(match d with | .struct _ | .array _ _=>true|_=>false)=false) (hs:(P.info? e).map (·.size)=some 1) (y:Value) (hy:cs[i]?=some y) :
  (Instr.index t (.agg cs) (.int .i64 (i:Int))).run P w = .ok y w:=by
 cases hq:P.info? e with
 | none=>simp [hq] at hs
 | some q=>
  have hs':q.size=1:=by simpa [hq] using hs
  have hagg:(isAgg e).run P w = .ok false w:=by
   unfold isAgg
   rw [Sem.run_bind,run_underlying hu w]
   cases d <;> simp_all
  exact Yx141
end
end Go.Proofs.Load
