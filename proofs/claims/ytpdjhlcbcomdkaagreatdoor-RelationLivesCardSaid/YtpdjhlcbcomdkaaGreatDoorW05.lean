/- Part of a proof. -/
import Derived.Test.YtpdjhlcbcomdkaaGreatDoorW03
import Derived.Test.YtpdjhlcbcomdkaaGreatDoorW04
set_option linter.unusedVariables false
set_option linter.unusedSimpArgs false
set_option maxRecDepth 100000
set_option maxHeartbeats 16000000
open Go Go.Q
namespace Go.Proofs.By
structure rG where
 Yy:Int
 lost:Int
 total:Int
 high:Int
 fg:Int
 last:Int
 delay:Int
structure RF where
 kind:Int
 Yy:Int
 Iw:Int
 time:Int
 WZ:Int
 octets:Int
 blocks:List rG
 gone:List Int
 X7:Int
 XF:List (Int × Int)
def XX:RF:=⟨0,0,0,0,0,0,[],[],0,[]⟩
def Oi (b:List UInt8) (p:Nat):rG:=⟨get b p 4,get b (p+4:Nat) 1,get b (p+5:Nat) 3,get b (p+8:Nat) 4,get b (p+12:Nat) 4,get b (p+16:Nat) 4,get b (p+20:Nat) 4⟩
def UZ (k n:Nat):Nat:=8+24*n+if k=200 then 20 else 0
def right (b:List UInt8):Nat × Int:=
 if b.length<4 then (0,2)
 else if at8 b 0 / 32≠4 then (0,1)
 else if at8 b 1≠200∧at8 b 1≠201 then (0,4)
 else if 15<at8 b 0 % 32∨(get b 2 2+1)*4≠UZ (at8 b 1) (at8 b 0 % 32) then (0,1)
 else if b.length<UZ (at8 b 1) (at8 b 0 % 32) then (0,2)
 else (UZ (at8 b 1) (at8 b 0 % 32),0)
def report (b:List UInt8):RF where
 kind:=at8 b 1
 Yy:=get b 4 4
 Iw:=if at8 b 1=200 then (get b 8 8:Int) else 0
 time:=if at8 b 1=200 then (get b 16 4:Int) else 0
 WZ:=if at8 b 1=200 then (get b 20 4:Int) else 0
 octets:=if at8 b 1=200 then (get b 24 4:Int) else 0
 blocks:=(List.range (at8 b 0 % 32)).map fun (i:Nat)=>Oi b ((if at8 b 1=200 then 28 else 8)+24*i)
 gone:=[]
 X7:=0
 XF:=[]
def X4 (b:List UInt8):(RF × Nat) × Int:=if (right b).2≠0 then ((XX,0),(right b).2) else ((report b,(right b).1),0)
def Xx (b:List UInt8):Nat × Bool:=
 if at8 b 1=200∨at8 b 1=201∨at8 b 1=203 then (at8 b 1,true)
 else if at8 b 1=205∨at8 b 1=206 then (at8 b 1,decide (at8 b 0 % 32=1)) else (0,false)
def XN (b:List UInt8) (k:Nat):Nat × Bool:=
 let n:=(get b 2 2+1)*4
 if k=203 then (n,decide (1≤at8 b 0 % 32) && decide (at8 b 0 % 32≤15) && decide (n=4+4*(at8 b 0 % 32)))
 else if k=205 then (n,decide (16≤n) && decide (n≤76)) else (n,decide (n=12))
def XY (b:List UInt8) (p:Nat):List Nat:=(List.range ((b.length-p) / 4)).map fun (i:Nat)=>get b (p+4*i:Nat) 4
def parts (b:List UInt8) (k:Nat):RF:=
 if k=203 then {XX with kind:=203,gone:=(XY b 4).map fun (n:Nat)=>(n:Int)}
 else {XX with kind:=k,Yy:=get b 4 4,X7:=get b 8 4,XF:=(XY b 12).map fun (n:Nat)=>(((n / 65536:Nat):Int),((n % 65536:Nat):Int))}
def Y7 (b:List UInt8):(RF × Nat) × Int:=
 if b.length<4 then ((XX,0),2)
 else if at8 b 0 / 32≠4 then ((XX,0),1)
 else if (Xx b).2=false then ((XX,0),4)
 else if (Xx b).1=200∨(Xx b).1=201 then X4 b
 else
  let n:=XN b (Xx b).1
  if n.2=false then ((XX,0),1)
  else if b.length<n.1 then ((XX,0),2)
  else ((parts (b.take n.1) (Xx b).1,n.1),0)
def YE:Nat→List UInt8→List RF × Int
 | 0,_=>([],3)
 | k+1,b=>
  if (Y7 b).2≠0 then ([],(Y7 b).2)
  else if b.length-(Y7 b).1.2=0 then ([(Y7 b).1.1],0)
  else
   let r:=YE k (b.drop (Y7 b).1.2)
   if r.2≠0 then ([],r.2) else ((Y7 b).1.1 :: r.1,0)
def Ym (b:List UInt8):List RF × Int:=if 512<b.length then ([],5) else YE 8 b
inductive Ev
 | none
 | X7 (p:KZ) (d:F3)
 | XV (l:List RF)
def XJ (b:List UInt8):Ev × Int:=
 if 512<b.length then (.none,5)
 else if b.length<2 then (.none,2)
 else if 192≤at8 b 1∧at8 b 1≤223 then (if (Ym b).2≠0 then (.none,(Ym b).2) else (.XV (Ym b).1,0))
 else if (YM b).2≠0 then (.none,(YM b).2)
 else if (YB (YM b).1.ZH).2≠0 then (.none,(YB (YM b).1.ZH).2)
 else (.X7 (YM b).1 (YB (YM b).1.ZH).1,0)
open Go.RowKit Go.Proofs.Heap
theorem Pd {B:Nat} {a w:World} (h:Below B a w):∀ q,Below B a (w.drewN q)
 | 0=>h
 | q+1=>(Pd h q).drew
theorem tM (k:Int) (w:World):Calls Tryz.prog 191 #[.int .i64 k] w fun e w'=>e = .returned (.bool (decide (k=200∨k=201)))∧w=w':=by
 by_cases h0:k=200
 ·subst h0
  go_enter Tryz.func191,Tryz.ntmps191
  go_wp2
  go_ret
  exact ⟨rfl,rfl⟩
 ·by_cases h1:k=201
  ·subst h1
   go_enter Tryz.func191,Tryz.ntmps191
   go_wp2
   go_ret
   exact ⟨rfl,rfl⟩
  ·have HF:Hid (decide (k=200∨k=201)=false):=WB Zo
   have b0:(k == 200)=false:=by rw [WQ];exact h0
   have b1:(k == 201)=false:=by rw [WQ];exact h1
   rw [HF.o]
   clear HF h0 h1
   go_enter Tryz.func191,Tryz.ntmps191
   go_wp2
   go_ret
   exact ⟨rfl,rfl⟩
theorem ug (k n:Nat) (w:World) (hn:n≤1000):Calls Tryz.prog 192 (Qz (k:Int) (n:Int)) w fun e w'=>e = .returned (.int .i64 (UZ k n:Nat))∧w=w':=by
 by_cases h0:k=200
 ·subst h0
  have HF:Hid (((UZ 200 n:Nat):Int)=8+24*(n:Int)+20):=by show _=_;unfold UZ;rw [ZQ rfl];omega
  rw [HF.o]
  clear HF
  go_enter Tryz.func192,Tryz.ntmps192
  go_wp2
  go_ret
  exact ⟨rfl,rfl⟩
 ·have HF:Hid (((UZ k n:Nat):Int)=8+24*(n:Int)):=by show _=_;unfold UZ;rw [Z4 h0];omega
  have b0:((k:Int) == 200)=false:=by rw [WQ];omega
  rw [HF.o]
  clear HF h0
  go_enter Tryz.func192,Tryz.ntmps192
  go_wp2
  go_ret
  exact ⟨rfl,rfl⟩
def Ph (k n:Nat):Nat:=if k=203 then 4+4*n else if k=205 then 12+4*n else 12
theorem M8 (k n:Nat) (w:World) (hn:n≤1000):Calls Tryz.prog 182 (Qz (k:Int) (n:Int)) w fun e w'=>e = .returned (.int .i64 (Ph k n:Nat))∧w=w':=by
 by_cases h0:k=203
 ·subst h0
  have HF:Hid (((Ph 203 n:Nat):Int)=4+4*(n:Int)):=by show _=_;unfold Ph;rw [ZQ rfl];omega
  rw [HF.o]
  clear HF
  go_enter Tryz.func182,Tryz.ntmps182
  go_wp2
  go_ret
  exact ⟨rfl,rfl⟩
 ·have b0:((k:Int) == 203)=false:=by rw [WQ];omega
  by_cases h1:k=205
  ·subst h1
   have HF:Hid (((Ph 205 n:Nat):Int)=12+4*(n:Int)):=by show _=_;unfold Ph;rw [Z4 Zd,ZQ rfl];omega
   rw [HF.o]
   clear HF
   go_enter Tryz.func182,Tryz.ntmps182
   go_wp2
   go_ret
   exact ⟨rfl,rfl⟩
  ·have HF:Hid (((Ph k n:Nat):Int)=12):=by show _=_;unfold Ph;rw [Z4 h0,Z4 h1];rfl
   have b1:((k:Int) == 205)=false:=by rw [WQ];omega
   rw [HF.o]
   clear HF h0 h1
   go_enter Tryz.func182,Tryz.ntmps182
   go_wp2
   go_ret
   exact ⟨rfl,rfl⟩
theorem QB (v:Value) (b:List UInt8) (p:Int) (w:World) (hv:X9 w v b) :
  Calls Tryz.prog 183 #[v,.int .i64 p] w fun e w'=>e = .returned (.int .u32 (get b p 4:Nat))∧w=w':=by
 have CG:=Zh (Oo v b p 4 w hv)
 have hn:get b p 4<4294967296:=Va b p 4 4 Zd
 clear hv
 generalize get b p 4=n at *
 go_enter Tryz.func183,Tryz.ntmps183
 go_wp2_with (go_at_call 155;refine CG.o.mono ?_;rintro e w' ⟨rfl,rfl⟩)
 go_ret
 exact ⟨rfl,rfl⟩
theorem tF (v:Value) (b:List UInt8) (w:World) (hv:X9 w v b) (hb:2≤b.length) :
  Calls Tryz.prog 169 #[v] w fun e w'=>e = .returned (.tuple (Q8 ((Xx b).1:Nat) (Xx b).2))∧Below w w w':=by
 have hlen:=hv.len
 have HE:Hid (Xx b=if at8 b 1=200∨at8 b 1=201∨at8 b 1=203 then (at8 b 1,true) else if at8 b 1=205∨at8 b 1=206 then (at8 b 1,decide (at8 b 0 % 32=1)) else (0,false)):=rfl
 obtain ⟨g,off,cap,rfl,_,_,hc⟩:=R7 hv Zo
 have d0:w.cell? ⟨g,off,none⟩=some (.int .u8 (at8 b 0:Int)):=hc 0 Zo
 have d1:=hc 1 Zo
 have ha:=Cf (at8 b 0) (Xo b 0)
 have S9:=Xo b 1
 have Wn:=YH w.heap.size w
 clear hc hv
 generalize Xx b=X at *
 generalize at8 b 0 % 32=m at *
 generalize at8 b 1=k at *
 by_cases h1:k=200∨k=201∨k=203
 ·obtain rfl:X=(k,true):=by rw [HE.o,ZQ h1]
  clear HE
  rcases h1 with rfl|rfl|rfl
  all_goals
   go_enter Tryz.func169,Tryz.ntmps169
   go_wp2
   go_ret2
   exact ⟨rfl,Wn⟩
 ·by_cases h2:k=205∨k=206
  ·obtain rfl:X=(k,decide (m=1)):=by rw [HE.o,Z4 h1,ZQ h2]
   clear HE h1
   have HM:Hid (decide (m=1)=((m:Int) == 1)):=by show _=_;rw [Bool.eq_iff_iff];simp;omega
   dsimp only
   rw [HM.o]
   rcases h2 with rfl|rfl
   all_goals
    go_enter Tryz.func169,Tryz.ntmps169
    go_wp2
    go_quiet (fail)
    go_wp2
    go_ret2
    exact ⟨rfl,Pd Wn _⟩
  ·obtain rfl:X=(0,false):=by rw [HE.o,Z4 h1,Z4 h2]
   have b0:((k:Int) == 200)=false:=by rw [WQ];omega
   have b1:((k:Int) == 201)=false:=by rw [WQ];omega
   have b3:((k:Int) == 203)=false:=by rw [WQ];omega
   have b5:((k:Int) == 205)=false:=by rw [WQ];omega
   have b6:((k:Int) == 206)=false:=by rw [WQ];omega
   clear HE h1 h2
   go_enter Tryz.func169,Tryz.ntmps169
   go_wp2
   go_ret2
   exact ⟨rfl,Wn⟩
theorem EZ (v:Value) (b:List UInt8) (w:World) (hv:X9 w v b) :
  Calls Tryz.prog 179 #[v] w fun e w'=>e = .returned (.tuple (Qz ((right b).1:Nat) (right b).2))∧Below w w w':=by
 have hlen:=hv.len
 have HE:Hid (right b=if b.length<4 then (0,2) else if at8 b 0 / 32≠4 then (0,1) else if at8 b 1≠200∧at8 b 1≠201 then (0,4) else if 15<at8 b 0 % 32∨(get b 2 2+1)*4≠UZ (at8 b 1) (at8 b 0 % 32) then (0,1) else if b.length<UZ (at8 b 1) (at8 b 0 % 32) then (0,2) else (UZ (at8 b 1) (at8 b 0 % 32),0)):=rfl
 have CG:=Oo v b 2 2 w hv
 obtain ⟨a,c,rfl,Sg,-⟩:=id hv
 have Wn:=YH w.heap.size w
 generalize right b=X at *
 by_cases h1:b.length<4
 ·obtain rfl:X=(0,2):=by rw [HE.o,ZQ h1]
  clear HE CG hv
  go_enter Tryz.func179,Tryz.ntmps179
  go_wp2
  go_ret2
  exact ⟨rfl,Wn⟩
 obtain ⟨g,off,cap,e1,_,_,hc⟩:=R7 hv Zo
 cases e1
 have d0:w.cell? ⟨g,off,none⟩=some (.int .u8 (at8 b 0:Int)):=hc 0 Zo
 have d1:=hc 1 Zo
 have QU:=Xo b 0
 have S9:=Xo b 1
 have ha:=Cf (at8 b 0) QU
 have hn:get b 2 2<65536:=Va b 2 2 2 Zd
 have l1:decide ((b.length:Int)<4)=false:=WB Zo
 have qU:=Zh CG
 clear hc hv CG
 by_cases h2:at8 b 0 / 32≠4
 ·obtain rfl:X=(0,1):=by rw [HE.o,Z4 h1,ZQ h2]
  have q:(((at8 b 0:Nat):Int) / 32 != 4)=true:=by rw [R6];omega
  clear HE h2
  go_enter Tryz.func179,Tryz.ntmps179
  go_wp2
  go_ret2
  exact ⟨rfl,Wn⟩
 have q2:(((at8 b 0:Nat):Int) / 32 != 4)=false:=by rw [bne_eq_false_iff_eq];omega
 have CK:=tM (at8 b 1:Nat) w
 by_cases h3:at8 b 1≠200∧at8 b 1≠201
 ·obtain rfl:X=(0,4):=by rw [HE.o,Z4 h1,Z4 h2,ZQ h3]
  rw [WB (show ¬(((at8 b 1:Nat):Int)=200∨((at8 b 1:Nat):Int)=201) by omega)] at CK
  have HCK:=Zh CK
  clear HE h2 h3 CK
  go_enter Tryz.func179,Tryz.ntmps179
  go_wp2_with (go_at_call 191;refine HCK.o.mono ?_;rintro e w' ⟨rfl,rfl⟩)
  go_ret2
  exact ⟨rfl,Wn⟩
 rw [We (show (((at8 b 1:Nat):Int)=200∨((at8 b 1:Nat):Int)=201) by omega)] at CK
 have HCK:=Zh CK
 have CS:Hid (∀ w,Calls Tryz.prog 192 (Qz ((at8 b 1:Nat):Int) ((at8 b 0 % 32:Nat):Int)) w fun e w'=>e = .returned (.int .i64 (UZ (at8 b 1) (at8 b 0 % 32):Nat))∧w=w'):=fun w=>ug _ _ w Zo
 have T4:UZ (at8 b 1) (at8 b 0 % 32)≤1000:=by unfold UZ;split <;> omega
 have hm:at8 b 0 % 32<32:=by omega
 have HE4:Hid (X=if 15<at8 b 0 % 32∨(get b 2 2+1)*4≠UZ (at8 b 1) (at8 b 0 % 32) then (0,1) else if b.length<UZ (at8 b 1) (at8 b 0 % 32) then (0,2) else (UZ (at8 b 1) (at8 b 0 % 32),0)):=by show _=_;rw [HE.o,Z4 h1,Z4 h2,Z4 h3]
 clear HE h2 h3 CK
 generalize UZ (at8 b 1) (at8 b 0 % 32)=z at *
 generalize at8 b 0 % 32=m at *
 generalize get b 2 2=n at *
 by_cases h4:15<m∨(n+1)*4≠z
 ·obtain rfl:X=(0,1):=by rw [HE4.o,ZQ h4]
  clear HE4
  by_cases h5:15<m
  ·have q5:decide ((15:Int)<(m:Int))=true:=We Zo
   clear h4
   exact jU
  ·have q5:decide ((15:Int)<(m:Int))=false:=WB Zo
   have q6:(((n:Int)+1)*4 != (z:Int))=true:=by rw [R6];omega
   clear h4
   exact jU
 ·have q5:decide ((15:Int)<(m:Int))=false:=WB Zo
  have q6:(((n:Int)+1)*4 != (z:Int))=false:=by rw [bne_eq_false_iff_eq];omega
  have ji:Hid (X=if b.length<z then (0,2) else (z,0)):=by show _=_;rw [HE4.o,Z4 h4]
  clear HE4 h4
  by_cases h5:b.length<z
  ·obtain rfl:X=(0,2):=by rw [ji.o,ZQ h5]
   have q7:decide ((b.length:Int)<(z:Int))=true:=We Zo
   clear ji
   exact jU
  ·obtain rfl:X=(z,0):=by rw [ji.o,Z4 h5]
   have q7:decide ((b.length:Int)<(z:Int))=false:=WB Zo
   clear ji
   exact jU
end Go.Proofs.By
namespace Go.Proofs.By
open Go.RowKit Go.Proofs.Heap
theorem L6 (v:Value) (l:List UInt8) (w:World) (hv:X9 w v l) (hl:l.length≤1000000) :
  Calls Tryz.prog 154 #[v] w fun e w'=>(∃ v',e = .returned v'∧Row w' 5 v' l.length (RX l))∧Below w w w':=by
 obtain ⟨a,cap,rfl,S9,Ol,Pv,L5⟩:=id hv
 have HV:=Zh hv
 have HN:=Zh Pv
 clear hv L5 S9 Ol Pv
 cases a with
 | none=>
  obtain ⟨h1,h2⟩:=HN.o rfl
  have HL:Hid (l=[]):=Cc h1
  have he:=fun w=>Lib.run_eql_slice_nil (P:=Tryz.prog) w 30 5 none l.length cap 0 0 Tryz.underlying30
  clear h1 h2
  go_enter Tryz.func154,Tryz.ntmps154
  go_wp2
  go_ret
  exact ⟨⟨_,rfl,by rw [HL.o];exact Row.nil _ _⟩,YH _ _⟩
 | some a=>
  have he:=fun w=>Lib.run_eql_slice_nil (P:=Tryz.prog) w 30 5 (some a) l.length cap 0 0 Tryz.underlying30
  clear HN
  go_enter Tryz.func154,Tryz.ntmps154
  go_wp2_with (at_builtin;refine QN rfl (.tmp 5) (.tmp 6) 30 rfl w.heap.size VL _ 0 [] rfl (SR w 5 1) _ l.length (RX l) rfl (HV.o.below (Z' _ _)) (by rw [Xl];omega) (Cj l) Zo Zo Zi (fun v' w1 HO HG=>?_))
  go_ret
  have hb:=((Fr.refl w.heap.size P_ w).alloc (Zw _) (.cells #[] 5)).grown HG.o Zi (by
   intro k hk
   have hk:some w.heap.size=some k:=hk
   cases hk
   exact Zw _)
  refine ⟨⟨_,rfl,?_⟩,hb.below⟩
  have:=Row.Z6 HO.o
  rwa [QP,Jy] at this
def TV (w:World) (k:Nat) (v:Value) (p:Nat):Prop:=w.heap[k]?=some (.cells #[v,.int .i64 (p:Int)] 264)
theorem TV.lt {w:World} {k:Nat} {v:Value} {p:Nat} (h:TV w k v p):k<w.heap.size:=by
 rcases Nat.lt_or_ge k w.heap.size with h1|h1
 ·exact h1
 ·unfold TV at h;rw [Fm h1] at h;cases h
theorem TV.cells {w:World} {k:Nat} {v:Value} {p:Nat} (h:TV w k v p):w.cell? ⟨k,0,none⟩=some v∧w.cell? ⟨k,1,none⟩=some (.int .i64 (p:Int))∧w.frozen? ⟨k,1,none⟩=false:=by
 unfold TV at h
 refine ⟨?_,?_,?_⟩
 ·simp only [World.cell?,h];rfl
 ·simp only [World.cell?,h];rfl
 ·simp [World.frozen?,h]
theorem TV.set {w:World} {k:Nat} {v:Value} {p:Nat} (h:TV w k v p) (q:Nat):TV (w.setCell ⟨k,1,none⟩ (.int .i64 (q:Int))) k v q:=by
 unfold TV at h ⊢
 simp [World.setCell,Array.getElem?_modify,h]
theorem heap_drewN (w:World):∀ n,(w.drewN n).heap=w.heap
 | 0=>rfl
 | n+1=>heap_drewN w n
theorem GA (k:Nat) (v:Value) (b:List UInt8) (p q:Nat) (w:World) (hE:TV w k v p) (hv:X9 w v b) (hp:p≤100000) (hq:q≤100) :
  Calls Tryz.prog 181 (Qj (some ⟨k,0,none⟩) (q:Int)) w fun e w'=>e = .returned (.int .u64 (get b p q:Nat))∧TV w' k v (p+q)∧Fr w (· = k) w w':=by
 have CG:Hid (∀ n,Calls Tryz.prog 155 #[v,.int .i64 (p:Int),.int .i64 (q:Int)] (w.drewN n) fun e w'=>e = .returned (.tuple (Jj (get b p q:Nat) (within b.length p q)))∧w'=w.drewN n):=
  fun n=>(Oo v b p q (w.drewN n) (hv.below (Pd (YH _ _) n))).mono fun _ _ h=>⟨h.1,h.2.symm⟩
 obtain ⟨c0,c1,f1⟩:=hE.cells
 have HE:=Zh hE
 clear hv hE
 generalize get b p q=n at *
 generalize within b.length p q=x at *
 go_enter Tryz.func181,Tryz.ntmps181
 go_wp2
 go_quiet ((go_at_call 155;exact Calls.quiet_of_same (CG.o _)))
 go_wp2
 go_ret
 refine ⟨rfl,?_,?_⟩
 ·refine TV.set (p:=p) ?_ (p+q)
  unfold TV
  rw [heap_drewN]
  exact HE.o
 ·exact (Fr.Z8 _ (Pd (YH _ _) _)).setAt 1 _
theorem Kg (k:Nat) (v:Value) (b:List UInt8) (p:Nat) (w:World) (hE:TV w k v p) (hv:X9 w v b) (hp:p≤100000) :
  Calls Tryz.prog 180 #[.pointer (some ⟨k,0,none⟩)] w fun e w'=>e = .returned (.int .u32 (get b p 4:Nat))∧TV w' k v (p+4)∧Fr w (· = k) w w':=by
 have CG:=Zh (GA k v b p 4 w hE hv hp Zo)
 have hn:get b p 4<4294967296:=Va b p 4 4 Zd
 clear hv hE
 have CG:Hid (Calls Tryz.prog 181 (Qj (some ⟨k,0,none⟩) 4) w fun e w'=>e = .returned (.int .u64 (get b p 4:Nat))∧TV w' k v (p+4)∧Fr w (· = k) w w'):=CG.o
 generalize get b p 4=n at *
 go_enter Tryz.func180,Tryz.ntmps180
 go_wp2_with (go_at_call 181;refine CG.o.mono ?_;rintro e w' ⟨rfl,he,hf⟩)
 go_ret
 exact ⟨rfl,he,hf⟩
theorem Av (v:Value) (b:List UInt8) (k:Nat) (w:World) (hv:X9 w v b) (hb:4≤b.length) :
  Calls Tryz.prog 171 #[v,.int .i64 (k:Int)] w fun e w'=>e = .returned (.tuple (Q8 ((XN b k).1:Nat) (XN b k).2))∧w=w':=by
 have hlen:=hv.len
 have CG:=Zh (Oo v b 2 2 w hv)
 have hn:get b 2 2<65536:=Va b 2 2 2 Zd
 obtain ⟨g,off,cap,rfl,_,_,hc⟩:=R7 hv Zo
 have d0:w.cell? ⟨g,off,none⟩=some (.int .u8 (at8 b 0:Int)):=hc 0 Zo
 have ha:=Cf (at8 b 0) (Xo b 0)
 have hm:at8 b 0 % 32<32:=by omega
 have HE:Hid (XN b k=if k=203 then ((get b 2 2+1)*4,decide (1≤at8 b 0 % 32) && decide (at8 b 0 % 32≤15) && decide ((get b 2 2+1)*4=4+4*(at8 b 0 % 32))) else if k=205 then ((get b 2 2+1)*4,decide (16≤(get b 2 2+1)*4) && decide ((get b 2 2+1)*4≤76)) else ((get b 2 2+1)*4,decide ((get b 2 2+1)*4=12))):=rfl
 have Tz:∀ n,Ph 203 n=4+4*n:=fun n=>by unfold Ph;rw [ZQ rfl]
 clear hc hv
 generalize XN b k=X at *
 generalize at8 b 0 % 32=m at *
 generalize get b 2 2=n at *
 have en:(((n+1)*4:Nat):Int)=((n:Int)+1)*4:=by omega
 by_cases h0:k=203
 ·subst h0
  have CZ:=M8 203 m w Zo
  rw [Tz,show ((4+4*m:Nat):Int)=4+4*(m:Int) by omega] at CZ
  have HCZ:=Zh CZ
  have HF:Hid (X=((n+1)*4,decide (1≤m) && decide (m≤15) && decide ((n+1)*4=4+4*m))):=by show _=_;rw [HE.o,ZQ rfl]
  clear HE CZ Tz
  by_cases h1:1≤m
  ·have q1:decide ((1:Int)≤(m:Int))=true:=We Zo
   by_cases h2:m≤15
   ·have q2:decide ((m:Int)≤15)=true:=We Zo
    have HX:Hid (X=((n+1)*4,(((n:Int)+1)*4 == 4+4*(m:Int)))):=by
     show _=_;rw [HF.o,We h1,We h2];simp only [Bool.true_and];congr 1
     rw [Bool.eq_iff_iff,Oh,beq_iff_eq];omega
    rw [HX.o]
    dsimp only
    rw [en]
    clear HF HX h1 h2 en
    exact fY
   ·have q2:decide ((m:Int)≤15)=false:=WB Zo
    have HX:Hid (X=((n+1)*4,false)):=by show _=_;rw [HF.o,WB h2];simp
    rw [HX.o]
    dsimp only
    rw [en]
    clear HF HX h1 h2 en HCZ
    exact gG
  ·have q1:decide ((1:Int)≤(m:Int))=false:=WB Zo
   have HX:Hid (X=((n+1)*4,false)):=by show _=_;rw [HF.o,WB h1];simp
   rw [HX.o]
   dsimp only
   rw [en]
   clear HF HX h1 en HCZ
   exact gG
 ·have b0:((k:Int) == 203)=false:=by rw [WQ];omega
  by_cases h1:k=205
  ·subst h1
   have C1:=M8 205 1 w Zo
   have C2:=M8 205 16 w Zo
   rw [show Ph 205 1=16 from rfl] at C1
   rw [show Ph 205 16=76 from rfl] at C2
   have DW:=Zh C1
   have Ic:=Zh C2
   have HF:Hid (X=((n+1)*4,decide (16≤(n+1)*4) && decide ((n+1)*4≤76))):=by show _=_;rw [HE.o,Z4 Zd,ZQ rfl]
   clear HE C1 C2 Tz
   by_cases h2:16≤(n+1)*4
   ·have q1:decide ((16:Int)≤((n:Int)+1)*4)=true:=We Zo
    have HX:Hid (X=((n+1)*4,decide (((n:Int)+1)*4≤76))):=by
     show _=_;rw [HF.o,We h2];simp only [Bool.true_and];congr 1;exact decide_eq_decide.2 Zo
    rw [HX.o]
    dsimp only
    rw [en]
    clear HF HX h2 en
    go_enter Tryz.func171,Tryz.ntmps171
    go_wp2_with fail
    refine CG.o.mono ?_
    rintro e w' ⟨rfl,rfl⟩
    go_wp2_with fail
    refine DW.o.mono ?_
    rintro e w' ⟨rfl,rfl⟩
    go_wp2_with fail
    refine Ic.o.mono ?_
    rintro e w' ⟨rfl,rfl⟩
    go_wp2_with fail
    go_ret2
    exact ⟨rfl,rfl⟩
   ·have q1:decide ((16:Int)≤((n:Int)+1)*4)=false:=WB Zo
    have HX:Hid (X=((n+1)*4,false)):=by show _=_;rw [HF.o,WB h2];simp
    rw [HX.o]
    dsimp only
    rw [en]
    clear HF HX h2 en Ic
    go_enter Tryz.func171,Tryz.ntmps171
    go_wp2_with fail
    refine CG.o.mono ?_
    rintro e w' ⟨rfl,rfl⟩
    go_wp2_with fail
    refine DW.o.mono ?_
    rintro e w' ⟨rfl,rfl⟩
    go_wp2_with fail
    go_ret2
    exact ⟨rfl,rfl⟩
  ·have b1:((k:Int) == 205)=false:=by rw [WQ];omega
   have CZ:=M8 k 0 w Zo
   rw [show Ph k 0=12 by unfold Ph;rw [Z4 h0,Z4 h1]] at CZ
   have HCZ:=Zh CZ
   have HX:Hid (X=((n+1)*4,(((n:Int)+1)*4 == 12))):=by
    show _=_;rw [HE.o,Z4 h0,Z4 h1];congr 1
    rw [Bool.eq_iff_iff,Oh,beq_iff_eq];omega
   rw [HX.o]
   dsimp only
   rw [en]
   clear HE HX h0 h1 en CZ Tz
   exact fY
end Go.Proofs.By
namespace Go.Proofs.By
open Go.RowKit Go.Proofs.Heap
def YO (l:List Int):List Value:=l.map (Value.int .u32)
def Wj (p:Int × Int):List Value:=(Qw p.1 p.2)
def Xf (x:rG):List Value:=(Qr x.Yy x.lost x.total x.high x.fg x.last x.delay)
theorem Vu:Elem Tryz.prog 29 66 1 4:=⟨Tryz.underlying29,⟨.int .u32 0,by kernel_rfl,rfl⟩,by decide⟩
theorem K_:Elem Tryz.prog 171 226 2 4:=⟨Tryz.underlying171,⟨.agg (Qw 0 0),by kernel_rfl,rfl⟩,by decide⟩
def fe (i:RF) (bv gv pv:Value):Value:= .agg #[.int .i64 i.kind,.int .u32 i.Yy,.int .u64 i.Iw,.int .u32 i.time,.int .u32 i.WZ,.int .u32 i.octets,bv,gv,.int .u32 i.X7,pv]
structure Td (w:World) (v:Value) (i:RF):Prop where
 ex:∃ bv gv pv,v=fe i bv gv pv∧Row w 228 bv i.blocks.length (i.blocks.flatMap Xf)∧Row w 66 gv i.gone.length (YO i.gone)∧Row w 226 pv i.XF.length (i.XF.flatMap Wj)
abbrev Vz (k s m:Int) (gv pv:Value):Array Value:=#[.int .i64 k,.int .u32 s,.int .u64 0,.int .u32 0,.int .u32 0,.int .u32 0,.slice none 0 0,gv,.int .u32 m,pv]
structure PB (w w':World) (k s m:Int) (gv pv:Value):Prop where
 Zj:Below w w w'
 wG:w'.heap[w.heap.size]?=some (.cells (Vz 0 0 0 (.slice none 0 0) (.slice none 0 0)) 173)
 Za:w'.heap[w.heap.size+1]?=some (.cells (Vz k s m gv pv) 173)
theorem PB.size {w w':World} {k s m:Int} {gv pv:Value} (h:PB w w' k s m gv pv):w.heap.size+1<w'.heap.size:=by
 rcases Nat.lt_or_ge (w.heap.size+1) w'.heap.size with h1|h1
 ·exact h1
 ·have:=h.Za
  rw [Fm h1] at this;cases this
theorem PB.below {w w1 w':World} {k s m:Int} {gv pv:Value} (h:PB w w1 k s m gv pv) (hb:Below w1 w1 w'):PB w w' k s m gv pv:=by
 have hs:=h.size
 exact ⟨h.Zj.trans (hb.mono Zo),by rw [hb.block _ Zo];exact h.wG,by rw [hb.block _ hs];exact h.Za⟩
theorem PB.grown {w w1 w':World} {k s m:Int} {gv pv:Value} (h:PB w w1 k s m gv pv) {row:Option Nat} (hg:w1.grownBy w' row) (hr:∀ j,row=some j→w.heap.size+2≤j):PB w w' k s m gv pv:=by
 have hs:=h.size
 refine ⟨h.Zj.trans ⟨hg.os,hg.tape,hg.output,hg.size,fun j hj=>hg.block j Zo (fun e=>by have:=hr j e.symm;omega)⟩,?_,?_⟩
 ·rw [hg.block _ Zo (fun e=>by have:=hr _ e.symm;omega)];exact h.wG
 ·rw [hg.block _ hs (fun e=>by have:=hr _ e.symm;omega)];exact h.Za
theorem PB.cell {w w':World} {k s m:Int} {gv pv:Value} (h:PB w w' k s m gv pv) (j:Nat):w'.cell? ⟨w.heap.size+1,j,none⟩=(Vz k s m gv pv)[j]?:=by
 have:=h.Za
 simp only [World.cell?,this]
 rfl
theorem PB.frozen {w w':World} {k s m:Int} {gv pv:Value} (h:PB w w' k s m gv pv) (j:Nat):w'.frozen? ⟨w.heap.size+1,j,none⟩=false:=by
 have:=h.Za
 simp [World.frozen?,this]
theorem PB.setG {w w':World} {k s m:Int} {gv pv:Value} (h:PB w w' k s m gv pv) (v:Value):PB w (w'.setCell ⟨w.heap.size+1,7,none⟩ v) k s m v pv:=by
 exact gT
theorem PB.setP {w w':World} {k s m:Int} {gv pv:Value} (h:PB w w' k s m gv pv) (v:Value):PB w (w'.setCell ⟨w.heap.size+1,9,none⟩ v) k s m gv v:=by
 exact gT
theorem PB.start (w:World) (k s m:Int):PB w ((w.alloc (.cells (Vz 0 0 0 (.slice none 0 0) (.slice none 0 0)) 173)).alloc (.cells (Vz k s m (.slice none 0 0) (.slice none 0 0)) 173)) k s m (.slice none 0 0) (.slice none 0 0):=
 ⟨((YH _ _).alloc (Zw _) _).alloc Zi _,(V9 w _ _).1,(V9 w _ _).2⟩
theorem EB (b:List UInt8) (p j:Nat) (hj:j<(b.length-p) / 4):(XY b p).take (j+1)=(XY b p).take j++[get b (p+4*j:Nat) 4]:=by
 have hl:j<(XY b p).length:=by unfold XY;simpa using hj
 rw [List.take_succ_eq_append_getElem hl]
 congr 2
 simp [XY]
theorem G7 (b:List UInt8) (p:Nat):(XY b p).length=(b.length-p) / 4:=by unfold XY;simp
theorem Dp {w w':World} {base:Nat} {e:TypeId} {size:Nat} {v:Value} {n:Nat} {xs:List Value} (h:w.ownsRow base e size v n xs) (hb:∀ k,base≤k→k<w.heap.size→w'.heap[k]?=w.heap[k]?):w'.ownsRow base e size v n xs:=by
 obtain ⟨h1,h2⟩:=h
 refine ⟨h1,?_⟩
 rcases h2 with h2|⟨g,cap,cur,hv,hg,hh,r⟩
 ·exact Ww h2
 ·have Po:g<w.heap.size:=by
   rcases Nat.lt_or_ge g w.heap.size with h|h
   ·exact h
   ·rw [Fm h] at hh;cases hh
  exact Wi ⟨g,cap,cur,hv,hg,by rw [hb g hg Po];exact hh,r⟩
theorem Vf {w:World} {base:Nat} {e:TypeId} {size:Nat} {v:Value} {n:Nat} {xs:List Value} (h:w.ownsRow base e size v n xs) {b o:Nat} (hp:b<base) (u:Value):(w.setCell ⟨b,o,none⟩ u).ownsRow base e size v n xs:=
 Dp h fun k hk _=>MW _ _ _ _ (by show k≠b;omega)
theorem Yx {w w':World} {base:Nat} {e:TypeId} {size:Nat} {v:Value} {n:Nat} {xs:List Value} (h:w.ownsRow base e size v n xs) (hb:Below w w w'):w'.ownsRow base e size v n xs:=Dp h fun k _ hk=>hb.block k hk
theorem LD {base:Nat} {e:TypeId} {size:Nat} {v:Value} {n:Nat} {xs:List Value} {w:World} (h:w.ownsRow base e size v n xs):∀ k,v.ownBlock=some k→base≤k:=by
 intro k hk
 obtain ⟨_,h⟩:=h
 rcases h with ⟨rfl,_⟩|⟨g,cap,cur,rfl,hg,_⟩
 ·cases hk
 ·have hk:some g=some k:=hk
  cases hk;exact hg
theorem VF (w:World) (e:TypeId) (n:Nat) (xs:List Value) (hn:n≤maxLen):Row (w.alloc (.cells xs.toArray e)) e (.slice (some ⟨w,0,none⟩) n n) n xs:=
 ⟨_,n,rfl,Zw _,hn,(fun h=>by cases h),Wi ⟨_,0,xs.toArray,(0,0),rfl,Z7 _ _,fun j _=>by simp⟩⟩
theorem PB.frozen0 {w w':World} {k s m:Int} {gv pv:Value} (h:PB w w' k s m gv pv) (j:Nat):w'.frozen? ⟨w,j,none⟩=false:=by
 have:=h.wG
 simp [World.frozen?,this]
theorem PB.cell0 {w w':World} {k s m:Int} {gv pv:Value} (h:PB w w' k s m gv pv) (j:Nat):w'.cell? ⟨w,j,none⟩=(Vz 0 0 0 (.slice none 0 0) (.slice none 0 0))[j]?:=by
 have:=h.wG
 simp only [World.cell?,this]
 rfl
theorem kx (w:World) (k:Nat) (v0 v1 v2 v3 v4 v5 v6 v7 v8 v9:Value):Fr w (· = k) w ((((((((((w.setCell ⟨k,0,none⟩ v0).setCell ⟨k,1,none⟩ v1).setCell ⟨k,2,none⟩ v2).setCell ⟨k,3,none⟩ v3).setCell ⟨k,4,none⟩ v4).setCell ⟨k,5,none⟩ v5).setCell ⟨k,6,none⟩ v6).setCell ⟨k,7,none⟩ v7).setCell ⟨k,8,none⟩ v8).setCell ⟨k,9,none⟩ v9):=((((((((((Fr.refl _ _ _).setAt 0 v0).setAt 1 v1).setAt 2 v2).setAt 3 v3).setAt 4 v4).setAt 5 v5).setAt 6 v6).setAt 7 v7).setAt 8 v8).setAt 9 v9
theorem vB (a b:Nat):((a+4*b:Nat):Int)=(a:Int)+4*(b:Int):=by omega
theorem tU (v:Value) (b:List UInt8) (w:World) (hv:X9 w v b) (h4:b.length % 4=0) (hb:b.length≤1000) (OE:4≤b.length) :
  Calls Tryz.prog 172 #[v,.int .i64 203] w fun e w'=>(∃ a,e = .returned a∧Td w' a (parts b 203))∧Below w w w':=by
 have HV:Hid (∀ w',Below w w w'→X9 w' v b):=fun w' h=>hv.below h
 have hlen:=hv.len
 obtain ⟨a,c,rfl,Sg,-⟩:=id hv
 obtain ⟨m,hm⟩:∃ m,b.length=4+4*m:=⟨(b.length-4) / 4,Zo⟩
 have HW:Hid (∀ j,j<m→((XY b 4).take (j+1)).map (fun n:Nat=>(n:Int))=((XY b 4).take j).map (fun n:Nat=>(n:Int))++[(get b (4+4*(j:Int)) 4:Int)]):=fun j hj=>by
  rw [EB b 4 j Zo,N7,vB];rfl
 have nv:Hid ((XY b 4).length=m):=by show _=_;rw [G7];omega
 have HWT:Hid (∀ j,j≤m→(((XY b 4).take j).map (fun n:Nat=>(n:Int))).length=j):=fun j hj=>by rw [Tx,Tg,nv.o];omega
 have HE:Hid (parts b 203={XX with kind:=203,gone:=(XY b 4).map fun (n:Nat)=>(n:Int)}):=rfl
 have CN:Hid (∀ w' (j:Nat),Below w w w'→Calls Tryz.prog 183 (Q6 a b.length c (4+4*(j:Int))) w' fun e w1=>e = .returned (.int .u32 (get b (4+4*(j:Int)) 4:Nat))∧w'=w1):=fun w' j h=>QB _ b _ w' (HV.o w' h)
 have BR:=Zh (PB.start w 203 0 0)
 clear hv HV
 rw [hm]
 rw [hm] at CN
 have ei:m≤250:=by omega
 generalize parts b 203=X at *
 clear hm hlen h4 hb OE Sg
 go_enter Tryz.func172,Tryz.ntmps172
 go_wp2
 go_loopw [6] (fun i w'=>∃ (j:Nat) (gv:Value),j≤m∧i = .int .i64 (4+4*(j:Int))∧PB w w' 203 0 0 gv (.slice none 0 0)∧w'.ownsRow (w.heap.size+2) 66 1 gv j (YO (((XY b 4).take j).map (fun n:Nat=>(n:Int))))) (fun i _=>4+4*m-(intOf i).toNat)
 case atStart=>exact ⟨0,.slice none 0 0,Tw _,rfl,BR.o,Ua _ _ _ _⟩
 case round=>
  clear BR
  obtain ⟨j,gv,hj,rfl,Ex,YJ⟩:=hrel
  have RD:=Zh Ex
  have Yl:=Zh YJ
  have T5:=Ex.size
  have c7:wr.cell? ⟨w.heap.size+1,7,none⟩=some gv:=Ex.cell 7
  have c5:=Ex.Za
  clear Ex YJ
  by_cases Am:j<m
  ·have CN1:=Zh (CN.o wr j RD.o.Zj)
   have zF:=Zh (HW.o j Am)
   have hn:get b (4+4*(j:Int)) 4<4294967296:=Va b _ 4 4 Zd
   clear c5
   generalize get b (4+4*(j:Int)) 4=n at *
   go_wp2_with (first|(go_at_call 183;refine CN1.o.mono ?_;rintro e w' ⟨rfl,rfl⟩)|(at_builtin;refine YV rfl (.tmp 30) (.tmp 32) 29 rfl (w.heap.size+2) Vu gv j _ rfl (Yl.o.alloc _) _ 1 [.int .u32 (n:Int)] rfl (VF wr 66 1 [.int .u32 (n:Int)] Zd) rfl (by intro u hu;simp at hu;subst hu;rfl) Zo Zo Uq (fun v' w5 HO HG=>?_);have BS:=Zh ((RD.o.below (Z' wr (.cells #[.int .u32 (n:Int)] 66))).grown HG.o (LD Yl.o));have JR:=BS.o.size;have f7:=BS.o.frozen 7;have c75:w5.cell? ⟨w.heap.size+1,7,none⟩=some gv:=BS.o.cell 7;obtain ⟨va,vc,pR,-,-⟩:=Row.Z6 HO.o;subst pR))
   go_roundw
   case rel=>exact ⟨j+1,_,Zo,Zn,BS.o.setG _,by rw [zF.o];exact Vf (by have:=HO.o;unfold YO at this ⊢;rw [N7];exact this) Zo _⟩
   case measure=>simp [intOf];omega
  ·obtain rfl:j=m:=by omega
   have Z0:=Row.Z6 Yl.o
   obtain ⟨va,vc,rfl,-,-⟩:=id Z0
   have e0:=RD.o.cell 0
   have e1:=RD.o.cell 1
   have e2:=RD.o.cell 2
   have e3:=RD.o.cell 3
   have e4:=RD.o.cell 4
   have e5:=RD.o.cell 5
   have e6:=RD.o.cell 6
   have e8:=RD.o.cell 8
   have e9:=RD.o.cell 9
   simp only [Vz,SK,S6,SJ] at e0 e1 e2 e3 e4 e5 e6 e8 e9
   have Vi:=Zh Z0
   have g0:=fun k=>RD.o.frozen0 k
   have g00:=g0 0
   have z0:=RD.o.cell0 0
   have g10:=g0 1
   have z1:=RD.o.cell0 1
   have g20:=g0 2
   have z2:=RD.o.cell0 2
   have g30:=g0 3
   have z3:=RD.o.cell0 3
   have g40:=g0 4
   have z4:=RD.o.cell0 4
   have g50:=g0 5
   have z5:=RD.o.cell0 5
   have g60:=g0 6
   have z6:=RD.o.cell0 6
   have g70:=g0 7
   have z7:=RD.o.cell0 7
   have g80:=g0 8
   have z8:=RD.o.cell0 8
   have g90:=g0 9
   have z9:=RD.o.cell0 9
   simp only [Vz,SK,S6,SJ] at z0 z1 z2 z3 z4 z5 z6 z7 z8 z9
   clear Z0 c5 g0
   have HT:Hid ((XY b 4).take j=XY b 4):=F5 (by rw [nv.o];exact Zw _)
   have BN:Hid (((XY b 4).map (fun n:Nat=>(n:Int))).length=j):=by show _=_;rw [Tx];exact nv.o
   have HK:Hid (∀ w',Fr wr (· = w.heap.size) wr w'→(Row w' 66 (.slice va j vc) j (YO (((XY b 4).take j).map (fun n:Nat=>(n:Int))))∧Below w w w')):=fun w' hf=>
    ⟨Vi.o.fr hf (Zw _) (fun k c' fr hk e=>by subst hk;rw [RD.o.wG] at e;injection e with e;injection e with _ e _;exact absurd e Zd),RD.o.Zj.trans (Fr.below (hf.mono (gW (Nat.lt_trans (Nat.lt_succ_self _) T5)) (fun k hk hs=>by have hs:k=w.heap.size:=hs;omega)))⟩
   go_wp2
   refine VJ (v:= .agg (Qd 203 0 0 0 0 0 none 0 0 va j vc 0 none 0 0)) (by simp [results,Tryz.results172,go_sem,z0,z1,z2,z3,z4,z5,z6,z7,z8,z9]) rfl ⟨⟨_,rfl,?_⟩,?_⟩
   ·have h:=HK.o _ (kx wr w.heap.size (.int .i64 203) (.int .u32 0) (.int .u64 0) (.int .u32 0) (.int .u32 0) (.int .u32 0) (.slice none 0 0) (.slice va j vc) (.int .u32 0) (.slice none 0 0))
    rw [HT.o] at h
    refine ⟨.slice none 0 0,.slice va j vc,.slice none 0 0,by rw [HE.o];rfl,by rw [HE.o];exact Row.nil _ _,?_,by rw [HE.o];exact Row.nil _ _⟩
    rw [HE.o]
    show Row _ _ _ ((XY b 4).map (fun n:Nat=>(n:Int))).length _
    rw [BN.o]
    with_reducible exact h.1
   ·have h:=HK.o _ (kx wr w.heap.size (.int .i64 203) (.int .u32 0) (.int .u64 0) (.int .u32 0) (.int .u32 0) (.int .u32 0) (.slice none 0 0) (.slice va j vc) (.int .u32 0) (.slice none 0 0))
    with_reducible exact h.2
end Go.Proofs.By
namespace Go.Proofs.By
open Go.RowKit Go.Proofs.Heap
theorem ZW {P:Program} {ops:Array Oper} {rest:List Oper} {o:Oper} {a:Act} {w:World} {Q:Exit→Act→World→Prop} (Mq:o.guard=none) (ty:TypeId) (x y:Operand) (ho:o.op = .store ty x y)
  (hd:o.dst=none) (g:Nat) (cells:Array Value) (hx:a.eval x = .pointer (some ⟨g,0,none⟩)) (hy:a.eval y = .agg cells)
  (t:TypeId) (old:Array Value) (hg:w.heap[g]?=some (.cells old t (0,0))) (hi:(P.info? ty).map (·.size)=some cells.size)
  (hold:old.size=cells.size) (h1:cells.all (·.oneCell')=true)
  (h:wpList P ops Q rest a (w.setRow g cells)):wpList P ops Q (o :: rest) a w:=
 Go.wpList_store_row Mq ty x y ho g cells hx hy t old hg hi hold h1 (by rw [hd];exact h)
theorem ZU {P:Program} {ops:Array Oper} {rest:List Oper} {o:Oper} {a:Act} {w:World} {Q:Exit→Act→World→Prop} (ty:TypeId) (x y:Operand) (_:o.op = .store ty x y) (h:wpList P ops Q (o :: rest) a w):wpList P ops Q (o :: rest) a w:=h
def Hj (p:KZ) (cv ev pv:Value):Value:= .agg #[.bool p.XR,.int .i64 p.type,.int .u16 p.seq,.int .u32 p.time,.int .u32 p.Yy,cv,.bool p.XQ,.int .u16 p.Yn,ev,pv,.int .i64 p.pad]
structure Oe (w:World) (v:Value) (p:KZ):Prop where
 ex:∃ cv ev pv,v=Hj p cv ev pv∧Row w 66 cv p.VW.length (YO p.VW)∧Row w 5 ev p.ext.length (RX p.ext)∧Row w 5 pv p.ZH.length (RX p.ZH)
theorem cell_of {w:World} {b:Nat} {cs:Array Value} {e:TypeId} (h:w.heap[b]?=some (.cells cs e)) (j:Nat):w.cell? ⟨b,j,none⟩=cs[j]?:=by
 simp only [World.cell?,h]
 rfl
theorem ZO {w:World} {b:Nat} {cs:Array Value} {e:TypeId} (h:w.heap[b]?=some (.cells cs e)) (j:Nat):w.frozen? ⟨b,j,none⟩=false:=by
 simp [World.frozen?,h]
theorem x8 (v:Value) (b:List UInt8) (w:World) (hv:X9 w v b) (h0:(looks b).2≠0) :
  Calls Tryz.prog 125 #[v] w fun e w'=>(∃ a,e = .returned (.tuple #[a,.int .i64 (YM b).2])∧Oe w' a (YM b).1)∧Below w w w':=by
 have HX:Hid (YM b=(WU,(looks b).2)):=by show _=_;unfold YM;rw [ZQ h0]
 have C:=fun w1 h=>AK v b w1 (hv.below (h:Below w w w1))
 have HC:=Zh C
 obtain ⟨a,c,rfl,Sg,-⟩:=id hv
 clear C hv
 have bl:((looks b).2 != 0)=true:=by rw [R6];exact h0
 have bl2:((looks b).2 == 0)=false:=by rw [WQ];exact h0
 generalize YM b=X at *
 generalize looks b=Y at *
 go_enter Tryz.func125,Tryz.ntmps125
 go_wp2_with fail
 refine (HC.o _ (Z' _ _)).mono ?_
 rintro e w2 ⟨rfl,Y0⟩
 have z0:=Y0.block w.heap.size Ca
 rw [Z7] at z0
 have zz:w.heap.size+1≤w2.heap.size:=by have h:=Y0.size;have h:(w.heap.push _).size≤w2.heap.size:=h;rw [O6] at h;exact h
 have y0:=((Z' w2 (.cells (Qn (Y.1.1:Nat) (Y.1.2.1:Nat) (Y.1.2.2:Nat)) 238)).block w.heap.size Zo).trans z0
 have z1:=cell_of y0 0
 have z2:=cell_of y0 1
 have z3:=cell_of y0 2
 have z4:=cell_of y0 3
 have z5:=cell_of y0 4
 have z6:=cell_of y0 5
 have z7:=cell_of y0 6
 have z8:=cell_of y0 7
 have z9:=cell_of y0 8
 have qR:=cell_of y0 9
 have z11:=cell_of y0 10
 simp only [SK,S6,SJ] at z1 z2 z3 z4 z5 z6 z7 z8 z9 qR z11
 have JO:=fun (R:World→Prop) (h:R (w2.alloc (.cells (Qn (Y.1.1:Nat) (Y.1.2.1:Nat) (Y.1.2.2:Nat)) 238)))=>(by rw [setRow_self _ _ _ _ _ y0];exact h:R ((w2.alloc (.cells (Qn (Y.1.1:Nat) (Y.1.2.1:Nat) (Y.1.2.2:Nat)) 238)).setRow w.heap.size VI))
 have HS:=Zh JO
 clear JO z0 HC
 go_wp2_with (with_reducible refine ZU 79 (.tmp 2) (.tmp 15) rfl ?_;go_loud (refine ZW rfl 79 (.tmp 2) (.tmp 15) rfl rfl w.heap.size VI rfl rfl 79 _ y0 ZB ZB ZB ?_;refine HS.o _ ?_))
 refine VJ (v:= .tuple (Qo VI Y.2)) (by simp [results,Tryz.results125,go_sem,z1,z2,z3,z4,z5,z6,z7,z8,z9,qR,z11]) rfl ⟨⟨_,by rw [HX.o],?_⟩,?_⟩
 ·exact ⟨.slice none 0 0,.slice none 0 0,.slice none 0 0,by rw [HX.o];rfl,by rw [HX.o];exact Row.nil _ _,by rw [HX.o];exact Row.nil _ _,by rw [HX.o];exact Row.nil _ _⟩
 ·have h3:=Z' w2 (.cells (Qn (Y.1.1:Nat) (Y.1.2.1:Nat) (Y.1.2.2:Nat)) 238)
  have h4:=h3.mono (show w.heap.size≤w2.heap.size by omega)
  have h5:=Y0.mono (show w.heap.size≤(w.heap.push _).size by rw [O6];exact IP _)
  exact ((Z' w _).trans h5).trans h4
theorem p_ {b:List UInt8} (h:(looks b).2=0):12≤b.length∧b.length≤512∧12≤(looks b).1.1∧(looks b).1.1≤(looks b).1.2.1∧(looks b).1.2.1≤(looks b).1.2.2∧(looks b).1.2.2≤b.length:=by
 unfold looks at h ⊢
 by_cases h1:512<b.length
 ·rw [ZQ h1] at h;cases h
 rw [Z4 h1] at h ⊢
 by_cases h2:b.length<12
 ·rw [ZQ h2] at h;cases h
 rw [Z4 h2] at h ⊢
 by_cases h3:at8 b 0 / 64≠2
 ·rw [ZQ h3] at h;cases h
 rw [Z4 h3] at h ⊢
 by_cases h4:192≤at8 b 1∧at8 b 1≤223
 ·rw [ZQ h4] at h;cases h
 rw [Z4 h4] at h ⊢
 dsimp only at h ⊢
 have hE:(Vv b (12+4*(at8 b 0 % 16))).2=true→12≤(Vv b (12+4*(at8 b 0 % 16))).1.1∧(Vv b (12+4*(at8 b 0 % 16))).1.1≤(Vv b (12+4*(at8 b 0 % 16))).1.2∧(Vv b (12+4*(at8 b 0 % 16))).1.2≤b.length:=by
  unfold Vv
  by_cases g:at8 b 0 / 16 % 2=0
  ·rw [ZQ g]
   intro h
   have h:=of_decide_eq_true h
   exact ⟨Nat.le_add_right _ _,Zw _,h⟩
  ·rw [Z4 g]
   intro h
   have h:=(TU _ _).mp h
   have h:=of_decide_eq_true h.2
   exact ⟨by show 12≤12+4*(at8 b 0 % 16)+4;omega,Nat.le_add_right _ _,h⟩
 generalize Vv b (12+4*(at8 b 0 % 16))=x at *
 by_cases h5:x.2=false
 ·rw [ZQ h5] at h;cases h
 rw [Z4 h5] at h ⊢
 obtain ⟨e1,e2,e3⟩:=hE (by simpa using h5)
 have hP:(Sb b (b.drop x.1.2)).2=true→(Sb b (b.drop x.1.2)).1≤b.length-x.1.2:=by
  unfold Sb
  by_cases g:at8 b 0 / 32 % 2=0
  ·rw [ZQ g];intro _;exact Tw _
  rw [Z4 g]
  by_cases g2:(b.drop x.1.2).length=0
  ·rw [ZQ g2];intro h;cases h
  rw [Z4 g2]
  dsimp only
  by_cases g3:at8 (b.drop x.1.2) ((b.drop x.1.2).length-1)=0∨(b.drop x.1.2).length<at8 (b.drop x.1.2) ((b.drop x.1.2).length-1)
  ·rw [ZQ g3];intro h;cases h
  rw [Z4 g3]
  have hl:(b.drop x.1.2).length=b.length-x.1.2:=Rx
  split
  ·intro _;show at8 _ _≤_;omega
  ·intro h;cases h
 generalize Sb b (b.drop x.1.2)=y at *
 by_cases h6:y.2=false
 ·rw [ZQ h6] at h;cases h
 rw [Z4 h6]
 have:=hP (by simpa using h6)
 exact ⟨Zo,Zo,e1,e2,by show x.1.2≤b.length-y.1;omega,by show b.length-y.1≤b.length;omega⟩
theorem ZV {w:World} {g:Nat} {o:Obj} (h:w.heap[g]?=some o):g<w.heap.size:=by
 rcases Nat.lt_or_ge g w.heap.size with h1|h1
 ·exact h1
 ·rw [Fm h1] at h;cases h
theorem VM {w:World} {g:Nat} {c:Array Value} {t:TypeId} {f:Nat × Nat} (h:w.heap[g]?=some (.cells c t f)) (o:Nat) (u:Value):(w.setCell ⟨g,o,none⟩ u).heap[g]?=some (.cells (c.setIfInBounds o u) t f):=by
 simp [World.setCell,Array.getElem?_modify,h]
theorem TD (w:World) (g:Nat) (c:Array Value):Fr w (· = g) w (w.setRow g c):=
 ⟨rfl,rfl,rfl,by simp [World.setRow],fun k _ hk=>setRow_other w g k _ (fun e=>hk e)⟩
theorem Row.setRow {w:World} {e:TypeId} {v:Value} {n:Nat} {xs:List Value} (h:Row w e v n xs) {g:Nat} {c:Array Value} {t:TypeId} {f:Nat × Nat} (hg:w.heap[g]?=some (.cells c t f)) (WM:e≠t) (c':Array Value):Row (w.setRow g c') e v n xs:=
 h.fr (TD w g c') (Zw _) (fun k _ _ hk=>by have hk:k=g:=hk;rw [hk,hg];intro h;injection h with h;injection h with _ h;exact WM h.symm)
def zpkt:List Value:=Yz3
structure PK (w w':World) (s p:Nat) (sh cs:List Value):Prop where
 Zj:Below w w w'
 res:w'.heap[w.heap.size]?=some (.cells zpkt.toArray 79)
 bu:w'.heap[s]?=some (.cells sh.toArray 238)
 Za:w'.heap[p]?=some (.cells cs.toArray 79)
 lt:w.heap.size<s∧s<p
theorem PK.tL {w w':World} {s p:Nat} {sh cs:List Value} (h:PK w w' s p sh cs):p<w'.heap.size:=ZV h.Za
theorem PK.cell {w w':World} {s p:Nat} {sh cs:List Value} (h:PK w w' s p sh cs) (j:Nat):w'.cell? ⟨p,j,none⟩=cs[j]?:=by
 rw [cell_of h.Za j];exact SK
theorem PK.frozen {w w':World} {s p:Nat} {sh cs:List Value} (h:PK w w' s p sh cs) (j:Nat):w'.frozen? ⟨p,j,none⟩=false:=ZO h.Za j
theorem PK.Rp {w w':World} {s p:Nat} {sh cs:List Value} (h:PK w w' s p sh cs) (j:Nat):w'.cell? ⟨s,j,none⟩=sh[j]?:=by
 rw [cell_of h.bu j];exact SK
theorem PK.drew {w w':World} {s p:Nat} {sh cs:List Value} (h:PK w w' s p sh cs):PK w w'.drew s p sh cs:=⟨h.Zj.drew,h.res,h.bu,h.Za,h.lt⟩
theorem PK.below {w w1 w':World} {s p:Nat} {sh cs:List Value} (h:PK w w1 s p sh cs) (hb:Below w1 w1 w'):PK w w' s p sh cs:=by
 have hk:=h.tL
 have hl:=h.lt
 refine ⟨h.Zj.trans (hb.mono Zo),?_,?_,?_,hl⟩
 ·rw [hb.block _ Zo];exact h.res
 ·rw [hb.block _ Zo];exact h.bu
 ·rw [hb.block _ Zo];exact h.Za
theorem PK.set {w w':World} {s p:Nat} {sh cs:List Value} (h:PK w w' s p sh cs) (j:Nat) (u:Value):PK w (w'.setCell ⟨p,j,none⟩ u) s p sh (cs.set j u):=by
 have hl:=h.lt
 refine ⟨h.Zj.setCell (p:=⟨p,j,none⟩) (by show w.heap.size≤p;omega) u,?_,?_,?_,hl⟩
 ·rw [MW _ _ _ _ (by show w.heap.size≠p;omega)];exact h.res
 ·rw [MW _ _ _ _ (by show s≠p;omega)];exact h.bu
 ·rw [VM h.Za j u];simp
theorem PK.grown {w w1 w':World} {s p:Nat} {sh cs:List Value} (h:PK w w1 s p sh cs) {row:Option Nat} (hg:w1.grownBy w' row) (hr:∀ j,row=some j→p<j):PK w w' s p sh cs:=by
 have hk:=h.tL
 have hl:=h.lt
 refine ⟨h.Zj.trans ⟨hg.os,hg.tape,hg.output,hg.size,fun i hi=>hg.block i Zo (fun e=>by have:=hr i e.symm;omega)⟩,?_,?_,?_,hl⟩
 ·rw [hg.block _ Zo (fun e=>by have:=hr _ e.symm;omega)];exact h.res
 ·rw [hg.block _ Zo (fun e=>by have:=hr _ e.symm;omega)];exact h.bu
 ·rw [hg.block _ hk (fun e=>by have:=hr _ e.symm;omega)];exact h.Za
theorem PK.row {w w':World} {s p:Nat} {sh cs:List Value} (h:PK w w' s p sh cs) (cs':List Value):PK w (w'.setRow (p) cs'.toArray) s p sh cs':=by
 have hl:=h.lt
 have hf:=TD w' (p) cs'.toArray
 have hk:=h.tL
 refine ⟨h.Zj.trans (Fr.below (hf.mono (show w.heap.size≤w'.heap.size by omega) (fun j hj hs=>by have hs:j=p:=hs;omega))),?_,?_,setRow_heap _ _ _ _ _ _ h.Za,hl⟩
 ·rw [hf.block _ Zo (fun hs=>by have hs:w.heap.size=p:=hs;omega)];exact h.res
 ·rw [hf.block _ Zo (fun hs=>by have hs:s=p:=hs;omega)];exact h.bu
structure PL (w w':World) (s p:Nat) (sh cs:List Value) (cv:Value) (j:Nat) (xs:List Value):Prop where
 pk:PK w w' s p sh cs
 own:w'.ownsRow (p+1) 66 1 cv j xs
theorem PL.grown {w w1 w':World} {s p:Nat} {sh cs:List Value} {cv:Value} {j:Nat} {xs:List Value} (h:PL w w1 s p sh cs cv j xs) (hg:w1.grownBy w' cv.ownBlock):PK w w' s p sh cs:=
 h.pk.grown hg (fun i hi=>by have:=LD h.own i hi;omega)
structure PR (w w':World) (s p:Nat) (sh cs:List Value) (cv ev pv:Value) (xs:List Int) (es ps:List UInt8):Prop where
 pk:PK w w' s p sh cs
 csr:Row w' 66 cv xs.length (YO xs)
 exr:Row w' 5 ev es.length (RX es)
 pyl:Row w' 5 pv ps.length (RX ps)
theorem PR.below {w w1 w':World} {s p:Nat} {sh cs:List Value} {cv ev pv:Value} {xs:List Int} {es ps:List UInt8} (h:PR w w1 s p sh cs cv ev pv xs es ps) (hb:Below w1 w1 w'):PR w w' s p sh cs cv ev pv xs es ps:=
 ⟨h.pk.below hb,h.csr.below hb,h.exr.below hb,h.pyl.below hb⟩
theorem PR.drew {w w1:World} {s p:Nat} {sh cs:List Value} {cv ev pv:Value} {xs:List Int} {es ps:List UInt8} (h:PR w w1 s p sh cs cv ev pv xs es ps):PR w w1.drew s p sh cs cv ev pv xs es ps:=
 h.below (YH _ _).drew
theorem PR.set {w w1:World} {s p:Nat} {sh cs:List Value} {cv ev pv:Value} {xs:List Int} {es ps:List UInt8} (h:PR w w1 s p sh cs cv ev pv xs es ps) (j:Nat) (u:Value):PR w (w1.setCell ⟨p,j,none⟩ u) s p sh (cs.set j u) cv ev pv xs es ps:=
 ⟨h.pk.set j u,h.csr.setCell (p:=⟨p,j,none⟩) h.pk.Za Zd u,h.exr.setCell (p:=⟨p,j,none⟩) h.pk.Za Zd u,h.pyl.setCell (p:=⟨p,j,none⟩) h.pk.Za Zd u⟩
end Go.Proofs.By
namespace Go.Proofs.By
open Go.Proofs.Rm (Room YD VK of YS Ze Wm Zx)
def Xc (p s:Int):Int:=if VK p 9 && VK s 9 then 3221225472+(256*p+s) else 0
def Vg (x:Int):Int × Int × Bool:=
 if VK ((x+1073741824) % 4294967296 / 256) 9 && VK ((x+1073741824) % 4294967296 % 256) 9 then ((x+1073741824) % 4294967296 / 256,(x+1073741824) % 4294967296 % 256,true) else (0,0,false)
theorem Xq {n m:Int}:VK n m=true↔1≤n∧n<m:=by unfold VK;simp
theorem E_ {x p s:Int} (h0:0≤x) (h1:x<4294967296):(VK p 9=true∧VK s 9=true∧Xc p s=x)↔Vg x=(p,s,true):=by
 unfold Vg Xc
 constructor
 ·rintro ⟨h2,h3,h4⟩
  rw [h2,h3] at h4
  have h4:3221225472+(256*p+s)=x:=by simpa using h4
  rw [Xq] at h2 h3
  have e1:(x+1073741824) % 4294967296 / 256=p:=by omega
  have e2:(x+1073741824) % 4294967296 % 256=s:=by omega
  rw [e1,e2,Xq.2 h2,Xq.2 h3]
  rfl
 ·intro h
  split at h
  ·rename_i hc
   injection h with h2 h3
   injection h3 with h3 _
   rw [h2,h3,TU] at hc
   rw [hc.1,hc.2]
   rw [Xq,Xq] at hc
   refine ⟨rfl,rfl,?_⟩
   show (if true && true then _ else _)=x
   simp only [Bool.and_self,if_true]
   omega
  ·injection h with _ h;injection h with _ h;cases h
def owned (R:Room) (peer x:Int):Bool:=(of R x).2.2 && decide ((R.src (of R x).1.toNat).own=peer)
def UG (R:Room) (peer x:Int):Bool:=(Vg x).2.2 && decide ((Vg x).1=peer) && Zx R peer (Vg x).2.1
def wH (e:Int):Int:=if e=0 then 0 else 1
def Zg (peer:Int):List Int→Room→(List YD × Room) × Int
 | [],R=>(([],R),0)
 | x :: l,R=>
  (((YS R peer x).1.1++(Zg peer l (YS R peer x).1.2).1.1,(Zg peer l (YS R peer x).1.2).1.2),wH (YS R peer x).2+(Zg peer l (YS R peer x).1.2).2)
theorem OC (peer x:Int):∀ (l:List Int) (R:Room),
  Zg peer (l++[x]) R=(((Zg peer l R).1.1++(YS (Zg peer l R).1.2 peer x).1.1,(YS (Zg peer l R).1.2 peer x).1.2),(Zg peer l R).2+wH (YS (Zg peer l R).1.2 peer x).2)
 | [],R=>by simp only [Zg,Jy,wC,Int.add_zero,Int.zero_add]
 | y :: l,R=>by
  have ih:=OC peer x l (YS R peer y).1.2
  rw [List.cons_append]
  unfold Zg
  rw [ih]
  simp only [gV,Int.add_assoc]
def Yj (R:Room) (peer:Int) (i:RF):(List YD × Room) × Int:=
 if i.kind=200 then (([],R),if owned R peer i.Yy then 0 else 1)
 else if i.kind=205∨i.kind=206 then (([],R),if UG R peer i.X7 then 0 else 1)
 else if i.kind=203 then Zg peer i.gone R
 else (([],R),0)
def ZE (peer:Int):List RF→Room→(List YD × Room) × Int
 | [],R=>(([],R),0)
 | x :: l,R=>(((Yj R peer x).1.1++(ZE peer l (Yj R peer x).1.2).1.1,(ZE peer l (Yj R peer x).1.2).1.2),(Yj R peer x).2+(ZE peer l (Yj R peer x).1.2).2)
theorem OH (peer:Int) (x:RF):∀ (l:List RF) (R:Room),
  ZE peer (l++[x]) R=(((ZE peer l R).1.1++(Yj (ZE peer l R).1.2 peer x).1.1,(Yj (ZE peer l R).1.2 peer x).1.2),(ZE peer l R).2+(Yj (ZE peer l R).1.2 peer x).2)
 | [],R=>by simp only [ZE,Jy,wC,Int.add_zero,Int.zero_add]
 | y :: l,R=>by
  have ih:=OH peer x l (Yj R peer y).1.2
  rw [List.cons_append]
  unfold ZE
  rw [ih]
  simp only [gV,Int.add_assoc]
structure FZ where
 kind:Int
 source:Int
 Oj:Int
 err:Int
deriving DecidableEq
structure Taken where
 XE:FZ
 XT:KZ
 Wo:F3
 items:List RF
 turns:List YD
 unknown:Int
def UJ:Taken:=⟨⟨0,0,0,0⟩,WU,TG,[],[],0⟩
def Yf (kind err:Int):Taken:={UJ with XE:=⟨kind,0,0,err⟩}
def Vd (R:Room) (ep peer:Int) (p:KZ) (d:F3):Taken:=
 if owned R peer p.Yy && decide ((of R p.Yy).2.1=d.ZF) then {UJ with XE:=⟨1,(of R p.Yy).1,ep,0⟩,XT:=p,Wo:=d} else Yf 5 0
def Ul (ep:Int) (l:List RF) (ts:List YD) (u:Int):Taken:={UJ with XE:=⟨2,0,ep,0⟩,items:=l,turns:=ts,unknown:=u}
def YF (R:Room) (ep peer:Int) (b:List UInt8):(Taken × Room) × Int:=
 if (XJ b).2≠0 then ((Yf 3 (XJ b).2,R),ep)
 else if !Ze R peer then ((Yf 4 0,R),ep)
 else match (XJ b).1 with
  | .X7 p d=>((Vd R ep peer p d,R),ep)
  | .XV l=>((Ul (ep+1) l (ZE peer l R).1.1 (ZE peer l R).2,(ZE peer l R).1.2),ep+1)
  | .none=>((Ul (ep+1) [] [] 0,R),ep+1)
def take (R:Room) (ep:Int) (o:Rm.Op) (b:List UInt8) (sv:Value):(Taken × Room) × Int:=
 if o.kind=1 then YF R ep o.peer b
 else if (Wm R o sv).2≠0 then ((Yf 6 (Wm R o sv).2,R),ep)
 else ((Ul (ep+1) [] (Wm R o sv).1.1 0,(Wm R o sv).1.2),ep+1)
end Go.Proofs.By
