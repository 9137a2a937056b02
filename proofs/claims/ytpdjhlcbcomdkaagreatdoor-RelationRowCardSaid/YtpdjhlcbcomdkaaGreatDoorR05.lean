/- Part of a proof. -/
import Derived.Test.YtpdjhlcbcomdkaaGreatDoorR03
import Derived.Test.YtpdjhlcbcomdkaaGreatDoorR04
set_option linter.unusedVariables false
set_option linter.unusedSimpArgs false
set_option maxRecDepth 100000
set_option maxHeartbeats 16000000
open Go Go.Q
namespace Go.Proofs.By
structure qQ where
 YE:Int
 lost:Int
 total:Int
 high:Int
 d_:Int
 last:Int
 delay:Int
structure Ro where
 kind:Int
 YE:Int
 Ie:Int
 time:Int
 WY:Int
 octets:Int
 blocks:List qQ
 gone:List Int
 X5:Int
 XA:List (Int × Int)
def XT:Ro:=⟨0,0,0,0,0,0,[],[],0,[]⟩
def N1 (b:List UInt8) (p:Nat):qQ:=⟨get b p 4,get b (p+4:Nat) 1,get b (p+5:Nat) 3,get b (p+8:Nat) 4,get b (p+12:Nat) 4,get b (p+16:Nat) 4,get b (p+20:Nat) 4⟩
def UQ (k n:Nat):Nat:=8+24*n+if k=200 then 20 else 0
def right (b:List UInt8):Nat × Int:=
 if b.length<4 then (0,2)
 else if at8 b 0 / 32≠4 then (0,1)
 else if at8 b 1≠200∧at8 b 1≠201 then (0,4)
 else if 15<at8 b 0 % 32∨(get b 2 2+1)*4≠UQ (at8 b 1) (at8 b 0 % 32) then (0,1)
 else if b.length<UQ (at8 b 1) (at8 b 0 % 32) then (0,2)
 else (UQ (at8 b 1) (at8 b 0 % 32),0)
def report (b:List UInt8):Ro where
 kind:=at8 b 1
 YE:=get b 4 4
 Ie:=if at8 b 1=200 then (get b 8 8:Int) else 0
 time:=if at8 b 1=200 then (get b 16 4:Int) else 0
 WY:=if at8 b 1=200 then (get b 20 4:Int) else 0
 octets:=if at8 b 1=200 then (get b 24 4:Int) else 0
 blocks:=(List.range (at8 b 0 % 32)).map fun (i:Nat)=>N1 b ((if at8 b 1=200 then 28 else 8)+24*i)
 gone:=[]
 X5:=0
 XA:=[]
def XZ (b:List UInt8):(Ro × Nat) × Int:=if (right b).2≠0 then ((XT,0),(right b).2) else ((report b,(right b).1),0)
def Xv (b:List UInt8):Nat × Bool:=
 if at8 b 1=200∨at8 b 1=201∨at8 b 1=203 then (at8 b 1,true)
 else if at8 b 1=205∨at8 b 1=206 then (at8 b 1,decide (at8 b 0 % 32=1)) else (0,false)
def XK (b:List UInt8) (k:Nat):Nat × Bool:=
 let n:=(get b 2 2+1)*4
 if k=203 then (n,decide (1≤at8 b 0 % 32) && decide (at8 b 0 % 32≤15) && decide (n=4+4*(at8 b 0 % 32)))
 else if k=205 then (n,decide (16≤n) && decide (n≤76)) else (n,decide (n=12))
def XV (b:List UInt8) (p:Nat):List Nat:=(List.range ((b.length-p) / 4)).map fun (i:Nat)=>get b (p+4*i:Nat) 4
def parts (b:List UInt8) (k:Nat):Ro:=
 if k=203 then {XT with kind:=203,gone:=(XV b 4).map fun (n:Nat)=>(n:Int)}
 else {XT with kind:=k,YE:=get b 4 4,X5:=get b 8 4,XA:=(XV b 12).map fun (n:Nat)=>(((n / 65536:Nat):Int),((n % 65536:Nat):Int))}
def Y6 (b:List UInt8):(Ro × Nat) × Int:=
 if b.length<4 then ((XT,0),2)
 else if at8 b 0 / 32≠4 then ((XT,0),1)
 else if (Xv b).2=false then ((XT,0),4)
 else if (Xv b).1=200∨(Xv b).1=201 then XZ b
 else
  let n:=XK b (Xv b).1
  if n.2=false then ((XT,0),1)
  else if b.length<n.1 then ((XT,0),2)
  else ((parts (b.take n.1) (Xv b).1,n.1),0)
def YD:Nat→List UInt8→List Ro × Int
 | 0,_=>([],3)
 | k+1,b=>
  if (Y6 b).2≠0 then ([],(Y6 b).2)
  else if b.length-(Y6 b).1.2=0 then ([(Y6 b).1.1],0)
  else
   let r:=YD k (b.drop (Y6 b).1.2)
   if r.2≠0 then ([],r.2) else ((Y6 b).1.1 :: r.1,0)
def Yj (b:List UInt8):List Ro × Int:=if 512<b.length then ([],5) else YD 8 b
inductive Ev
 | none
 | X5 (p:KI) (d:FJ)
 | XX (l:List Ro)
def XN (b:List UInt8):Ev × Int:=
 if 512<b.length then (.none,5)
 else if b.length<2 then (.none,2)
 else if 192≤at8 b 1∧at8 b 1≤223 then (if (Yj b).2≠0 then (.none,(Yj b).2) else (.XX (Yj b).1,0))
 else if (YM b).2≠0 then (.none,(YM b).2)
 else if (Yy (YM b).1.ZG).2≠0 then (.none,(Yy (YM b).1.ZG).2)
 else (.X5 (YM b).1 (Yy (YM b).1.ZG).1,0)
open Go.RowKit Go.Proofs.Heap
theorem OW {B:Nat} {a w:World} (h:Below B a w):∀ q,Below B a (w.drewN q)
 | 0=>h
 | q+1=>(OW h q).drew
theorem sU (k:Int) (w:World):Calls Tryz.prog 191 #[.int .i64 k] w fun e w'=>e = .returned (.bool (decide (k=200∨k=201)))∧w=w':=by
 by_cases h0:k=200
 ·subst h0;go_enter Tryz.func191,Tryz.ntmps191;go_wp2;go_ret;exact ⟨rfl,rfl⟩
 ·by_cases h1:k=201
  ·subst h1;go_enter Tryz.func191,Tryz.ntmps191;go_wp2;go_ret;exact ⟨rfl,rfl⟩
  ·have HF:Hid (decide (k=200∨k=201)=false):=WI Zo;have b0:(k == 200)=false:=by rw [WR];exact h0
   have b1:(k == 201)=false:=by rw [WR];exact h1
   rw [HF.o];clear HF h0 h1;go_enter Tryz.func191,Tryz.ntmps191;go_wp2;go_ret;exact ⟨rfl,rfl⟩
theorem tM (k n:Nat) (w:World) (hn:n≤1000):Calls Tryz.prog 192 (Qz (k:Int) (n:Int)) w fun e w'=>e = .returned (.int .i64 (UQ k n:Nat))∧w=w':=by
 by_cases h0:k=200
 ·subst h0;have HF:Hid (((UQ 200 n:Nat):Int)=8+24*(n:Int)+20):=by show _=_;unfold UQ;rw [ZR rfl];omega
  rw [HF.o];clear HF;go_enter Tryz.func192,Tryz.ntmps192;go_wp2;go_ret;exact ⟨rfl,rfl⟩
 ·have HF:Hid (((UQ k n:Nat):Int)=8+24*(n:Int)):=by show _=_;unfold UQ;rw [Z4 h0];omega
  have b0:((k:Int) == 200)=false:=by rw [WR];omega
  rw [HF.o];clear HF h0;go_enter Tryz.func192,Tryz.ntmps192;go_wp2;go_ret;exact ⟨rfl,rfl⟩
def O0 (k n:Nat):Nat:=if k=203 then 4+4*n else if k=205 then 12+4*n else 12
theorem MT (k n:Nat) (w:World) (hn:n≤1000):Calls Tryz.prog 182 (Qz (k:Int) (n:Int)) w fun e w'=>e = .returned (.int .i64 (O0 k n:Nat))∧w=w':=by
 by_cases h0:k=203
 ·subst h0;have HF:Hid (((O0 203 n:Nat):Int)=4+4*(n:Int)):=by show _=_;unfold O0;rw [ZR rfl];omega
  rw [HF.o];clear HF;go_enter Tryz.func182,Tryz.ntmps182;go_wp2;go_ret;exact ⟨rfl,rfl⟩
 ·have b0:((k:Int) == 203)=false:=by rw [WR];omega
  by_cases h1:k=205
  ·subst h1;have HF:Hid (((O0 205 n:Nat):Int)=12+4*(n:Int)):=by show _=_;unfold O0;rw [Z4 Zd,ZR rfl];omega
   rw [HF.o];clear HF;go_enter Tryz.func182,Tryz.ntmps182;go_wp2;go_ret;exact ⟨rfl,rfl⟩
  ·have HF:Hid (((O0 k n:Nat):Int)=12):=by show _=_;unfold O0;rw [Z4 h0,Z4 h1];rfl
   have b1:((k:Int) == 205)=false:=by rw [WR];omega
   rw [HF.o];clear HF h0 h1;go_enter Tryz.func182,Tryz.ntmps182;go_wp2;go_ret;exact ⟨rfl,rfl⟩
theorem PT (v:Value) (b:List UInt8) (p:Int) (w:World) (hv:X6 w v b) :
  Calls Tryz.prog 183 #[v,.int .i64 p] w fun e w'=>e = .returned (.int .u32 (get b p 4:Nat))∧w=w':=by
 have CG:=Zh (N8 v b p 4 w hv);have hn:get b p 4<4294967296:=U5 b p 4 4 Zd;clear hv;generalize get b p 4=n at *
 go_enter Tryz.func183,Tryz.ntmps183;go_wp2_with (go_at_call 155;refine CG.o.mono ?_;rintro e w' ⟨rfl,rfl⟩)
 go_ret;exact ⟨rfl,rfl⟩
theorem sL (v:Value) (b:List UInt8) (w:World) (hv:X6 w v b) (hb:2≤b.length) :
  Calls Tryz.prog 169 #[v] w fun e w'=>e = .returned (.tuple (Q9 ((Xv b).1:Nat) (Xv b).2))∧Below w w w':=by
 have hlen:=hv.len;have HE:Hid (Xv b=if at8 b 1=200∨at8 b 1=201∨at8 b 1=203 then (at8 b 1,true) else if at8 b 1=205∨at8 b 1=206 then (at8 b 1,decide (at8 b 0 % 32=1)) else (0,false)):=rfl;obtain ⟨g,off,cap,rfl,_,_,hc⟩:=RR hv Zo;have d0:w.cell? ⟨g,off,none⟩=some (.int .u8 (at8 b 0:Int)):=hc 0 Zo;have d1:=hc 1 Zo;have ha:=BP (at8 b 0) (Xl b 0);have SJ:=Xl b 1;have VX:=YJ w.heap.size w;clear hc hv;generalize Xv b=X at *
 generalize at8 b 0 % 32=m at *
 generalize at8 b 1=k at *
 by_cases h1:k=200∨k=201∨k=203
 ·obtain rfl:X=(k,true):=by rw [HE.o,ZR h1]
  clear HE;rcases h1 with rfl|rfl|rfl
  all_goals
   go_enter Tryz.func169,Tryz.ntmps169;go_wp2
   go_ret2
   exact ⟨rfl,VX⟩
 ·by_cases h2:k=205∨k=206
  ·obtain rfl:X=(k,decide (m=1)):=by rw [HE.o,Z4 h1,ZR h2]
   clear HE h1;have HM:Hid (decide (m=1)=((m:Int) == 1)):=by show _=_;rw [Bool.eq_iff_iff];simp;omega
   dsimp only;rw [HM.o];rcases h2 with rfl|rfl
   all_goals
    go_enter Tryz.func169,Tryz.ntmps169;go_wp2;go_quiet (fail)
    go_wp2
    go_ret2
    exact ⟨rfl,OW VX _⟩
  ·obtain rfl:X=(0,false):=by rw [HE.o,Z4 h1,Z4 h2]
   have b0:((k:Int) == 200)=false:=by rw [WR];omega
   have b1:((k:Int) == 201)=false:=by rw [WR];omega
   have b3:((k:Int) == 203)=false:=by rw [WR];omega
   have b5:((k:Int) == 205)=false:=by rw [WR];omega
   have b6:((k:Int) == 206)=false:=by rw [WR];omega
   clear HE h1 h2;go_enter Tryz.func169,Tryz.ntmps169;go_wp2
   go_ret2
   exact ⟨rfl,VX⟩
theorem EI (v:Value) (b:List UInt8) (w:World) (hv:X6 w v b) :
  Calls Tryz.prog 179 #[v] w fun e w'=>e = .returned (.tuple (Qz ((right b).1:Nat) (right b).2))∧Below w w w':=by
 have hlen:=hv.len;have HE:Hid (right b=if b.length<4 then (0,2) else if at8 b 0 / 32≠4 then (0,1) else if at8 b 1≠200∧at8 b 1≠201 then (0,4) else if 15<at8 b 0 % 32∨(get b 2 2+1)*4≠UQ (at8 b 1) (at8 b 0 % 32) then (0,1) else if b.length<UQ (at8 b 1) (at8 b 0 % 32) then (0,2) else (UQ (at8 b 1) (at8 b 0 % 32),0)):=rfl;have CG:=N8 v b 2 2 w hv;obtain ⟨a,c,rfl,R4,-⟩:=id hv;have VX:=YJ w.heap.size w;generalize right b=X at *
 by_cases h1:b.length<4
 ·obtain rfl:X=(0,2):=by rw [HE.o,ZR h1]
  clear HE CG hv;go_enter Tryz.func179,Tryz.ntmps179;go_wp2
  go_ret2
  exact ⟨rfl,VX⟩
 obtain ⟨g,off,cap,e1,_,_,hc⟩:=RR hv Zo;cases e1;have d0:w.cell? ⟨g,off,none⟩=some (.int .u8 (at8 b 0:Int)):=hc 0 Zo;have d1:=hc 1 Zo;have QI:=Xl b 0;have SJ:=Xl b 1;have ha:=BP (at8 b 0) QI;have hn:get b 2 2<65536:=U5 b 2 2 2 Zd;have l1:decide ((b.length:Int)<4)=false:=WI Zo;have qo:=Zh CG;clear hc hv CG;by_cases h2:at8 b 0 / 32≠4
 ·obtain rfl:X=(0,1):=by rw [HE.o,Z4 h1,ZR h2]
  have q:(((at8 b 0:Nat):Int) / 32 != 4)=true:=by rw [RQ];omega
  clear HE h2;go_enter Tryz.func179,Tryz.ntmps179;go_wp2
  go_ret2
  exact ⟨rfl,VX⟩
 have q2:(((at8 b 0:Nat):Int) / 32 != 4)=false:=by rw [bne_eq_false_iff_eq];omega
 have CK:=sU (at8 b 1:Nat) w;by_cases h3:at8 b 1≠200∧at8 b 1≠201
 ·obtain rfl:X=(0,4):=by rw [HE.o,Z4 h1,Z4 h2,ZR h3]
  rw [WI (show ¬(((at8 b 1:Nat):Int)=200∨((at8 b 1:Nat):Int)=201) by omega)] at CK;have HCK:=Zh CK;clear HE h2 h3 CK;go_enter Tryz.func179,Tryz.ntmps179;go_wp2_with (go_at_call 191;refine HCK.o.mono ?_;rintro e w' ⟨rfl,rfl⟩)
  go_ret2
  exact ⟨rfl,VX⟩
 rw [Wi (show (((at8 b 1:Nat):Int)=200∨((at8 b 1:Nat):Int)=201) by omega)] at CK;have HCK:=Zh CK;have CS:Hid (∀ w,Calls Tryz.prog 192 (Qz ((at8 b 1:Nat):Int) ((at8 b 0 % 32:Nat):Int)) w fun e w'=>e = .returned (.int .i64 (UQ (at8 b 1) (at8 b 0 % 32):Nat))∧w=w'):=fun w=>tM _ _ w Zo
 have Uc:UQ (at8 b 1) (at8 b 0 % 32)≤1000:=by unfold UQ;split <;> omega
 have hm:at8 b 0 % 32<32:=by omega
 have HE4:Hid (X=if 15<at8 b 0 % 32∨(get b 2 2+1)*4≠UQ (at8 b 1) (at8 b 0 % 32) then (0,1) else if b.length<UQ (at8 b 1) (at8 b 0 % 32) then (0,2) else (UQ (at8 b 1) (at8 b 0 % 32),0)):=by show _=_;rw [HE.o,Z4 h1,Z4 h2,Z4 h3]
 clear HE h2 h3 CK;generalize UQ (at8 b 1) (at8 b 0 % 32)=z at *
 generalize at8 b 0 % 32=m at *
 generalize get b 2 2=n at *
 by_cases h4:15<m∨(n+1)*4≠z
 ·obtain rfl:X=(0,1):=by rw [HE4.o,ZR h4]
  clear HE4;by_cases h5:15<m
  ·have q5:decide ((15:Int)<(m:Int))=true:=Wi Zo;clear h4;exact jm
  ·have q5:decide ((15:Int)<(m:Int))=false:=WI Zo;have q6:(((n:Int)+1)*4 != (z:Int))=true:=by rw [RQ];omega
   clear h4;exact jm
 ·have q5:decide ((15:Int)<(m:Int))=false:=WI Zo;have q6:(((n:Int)+1)*4 != (z:Int))=false:=by rw [bne_eq_false_iff_eq];omega
  have iB:Hid (X=if b.length<z then (0,2) else (z,0)):=by show _=_;rw [HE4.o,Z4 h4]
  clear HE4 h4;by_cases h5:b.length<z
  ·obtain rfl:X=(0,2):=by rw [iB.o,ZR h5]
   have q7:decide ((b.length:Int)<(z:Int))=true:=Wi Zo;clear iB;exact jm
  ·obtain rfl:X=(z,0):=by rw [iB.o,Z4 h5]
   have q7:decide ((b.length:Int)<(z:Int))=false:=WI Zo;clear iB;exact jm
end Go.Proofs.By
namespace Go.Proofs.By
open Go.RowKit Go.Proofs.Heap
theorem LL (v:Value) (l:List UInt8) (w:World) (hv:X6 w v l) (hl:l.length≤1000000) :
  Calls Tryz.prog 154 #[v] w fun e w'=>(∃ v',e = .returned v'∧Row w' 5 v' l.length (RD l))∧Below w w w':=by
 obtain ⟨a,cap,rfl,SJ,N7,Rh,LK⟩:=id hv;have HV:=Zh hv;have HN:=Zh Rh;clear hv LK SJ N7 Rh;cases a with
 | none=>
  obtain ⟨h1,h2⟩:=HN.o rfl;have HL:Hid (l=[]):=BN h1;have he:=fun w=>Lib.run_eql_slice_nil (P:=Tryz.prog) w 30 5 none l.length cap 0 0 Tryz.underlying30
  clear h1 h2;go_enter Tryz.func154,Tryz.ntmps154;go_wp2;go_ret;exact ⟨⟨_,rfl,by rw [HL.o];exact Row.nil _ _⟩,YJ _ _⟩
 | some a=>
  have he:=fun w=>Lib.run_eql_slice_nil (P:=Tryz.prog) w 30 5 (some a) l.length cap 0 0 Tryz.underlying30
  clear HN;go_enter Tryz.func154,Tryz.ntmps154;go_wp2_with (at_builtin;refine QB rfl (.tmp 5) (.tmp 6) 30 rfl w.heap.size VF _ 0 [] rfl (SL w 5 1) _ l.length (RD l) rfl (HV.o.below (Z' _ _)) (by rw [Xh];omega) (BU l) Zo Zo Zi (fun v' w1 HO HG=>?_))
  go_ret
  have hb:=((Fr.refl w.heap.size PN w).alloc (Zw _) (.cells #[] 5)).grown HG.o Zi (by
   intro k hk;have hk:some w.heap.size=some k:=hk;cases hk
   exact Zw _)
  refine ⟨⟨_,rfl,?_⟩,hb.below⟩;have:=Row.Z6 HO.o
  rwa [QD,J2] at this
def TN (w:World) (k:Nat) (v:Value) (p:Nat):Prop:=w.heap[k]?=some (.cells #[v,.int .i64 (p:Int)] 264)
theorem TN.lt {w:World} {k:Nat} {v:Value} {p:Nat} (h:TN w k v p):k<w.heap.size:=by
 rcases Nat.lt_or_ge k w.heap.size with h1|h1
 ·exact h1
 ·unfold TN at h;rw [E7 h1] at h;cases h
theorem TN.cells {w:World} {k:Nat} {v:Value} {p:Nat} (h:TN w k v p):w.cell? ⟨k,0,none⟩=some v∧w.cell? ⟨k,1,none⟩=some (.int .i64 (p:Int))∧w.frozen? ⟨k,1,none⟩=false:=by
 unfold TN at h;refine ⟨?_,?_,?_⟩
 ·simp only [World.cell?,h];rfl
 ·simp only [World.cell?,h];rfl
 ·simp [World.frozen?,h]
theorem TN.set {w:World} {k:Nat} {v:Value} {p:Nat} (h:TN w k v p) (q:Nat):TN (w.setCell ⟨k,1,none⟩ (.int .i64 (q:Int))) k v q:=by
 unfold TN at h ⊢;simp [World.setCell,Array.getElem?_modify,h]
theorem heap_drewN (w:World):∀ n,(w.drewN n).heap=w.heap
 | 0=>rfl
 | n+1=>heap_drewN w n
theorem Gh (k:Nat) (v:Value) (b:List UInt8) (p q:Nat) (w:World) (hE:TN w k v p) (hv:X6 w v b) (hp:p≤100000) (hq:q≤100) :
  Calls Tryz.prog 181 (Qk (some ⟨k,0,none⟩) (q:Int)) w fun e w'=>e = .returned (.int .u64 (get b p q:Nat))∧TN w' k v (p+q)∧Fr w (· = k) w w':=by
 have CG:Hid (∀ n,Calls Tryz.prog 155 #[v,.int .i64 (p:Int),.int .i64 (q:Int)] (w.drewN n) fun e w'=>e = .returned (.tuple (Jk (get b p q:Nat) (within b.length p q)))∧w'=w.drewN n):=
  fun n=>(N8 v b p q (w.drewN n) (hv.below (OW (YJ _ _) n))).mono fun _ _ h=>⟨h.1,h.2.symm⟩
 obtain ⟨c0,c1,f1⟩:=hE.cells;have HE:=Zh hE;clear hv hE;generalize get b p q=n at *
 generalize within b.length p q=x at *
 go_enter Tryz.func181,Tryz.ntmps181;go_wp2;go_quiet ((go_at_call 155;exact Calls.quiet_of_same (CG.o _)))
 go_wp2;go_ret;refine ⟨rfl,?_,?_⟩
 ·refine TN.set (p:=p) ?_ (p+q);unfold TN;rw [heap_drewN];exact HE.o
 ·exact (Fr.Z7 _ (OW (YJ _ _) _)).setAt 1 _
theorem J4 (k:Nat) (v:Value) (b:List UInt8) (p:Nat) (w:World) (hE:TN w k v p) (hv:X6 w v b) (hp:p≤100000) :
  Calls Tryz.prog 180 #[.pointer (some ⟨k,0,none⟩)] w fun e w'=>e = .returned (.int .u32 (get b p 4:Nat))∧TN w' k v (p+4)∧Fr w (· = k) w w':=by
 have CG:=Zh (Gh k v b p 4 w hE hv hp Zo);have hn:get b p 4<4294967296:=U5 b p 4 4 Zd;clear hv hE;have CG:Hid (Calls Tryz.prog 181 (Qk (some ⟨k,0,none⟩) 4) w fun e w'=>e = .returned (.int .u64 (get b p 4:Nat))∧TN w' k v (p+4)∧Fr w (· = k) w w'):=CG.o;generalize get b p 4=n at *
 go_enter Tryz.func180,Tryz.ntmps180;go_wp2_with (go_at_call 181;refine CG.o.mono ?_;rintro e w' ⟨rfl,he,hf⟩)
 go_ret;exact ⟨rfl,he,hf⟩
theorem Ad (v:Value) (b:List UInt8) (k:Nat) (w:World) (hv:X6 w v b) (hb:4≤b.length) :
  Calls Tryz.prog 171 #[v,.int .i64 (k:Int)] w fun e w'=>e = .returned (.tuple (Q9 ((XK b k).1:Nat) (XK b k).2))∧w=w':=by
 have hlen:=hv.len;have CG:=Zh (N8 v b 2 2 w hv);have hn:get b 2 2<65536:=U5 b 2 2 2 Zd;obtain ⟨g,off,cap,rfl,_,_,hc⟩:=RR hv Zo;have d0:w.cell? ⟨g,off,none⟩=some (.int .u8 (at8 b 0:Int)):=hc 0 Zo;have ha:=BP (at8 b 0) (Xl b 0);have hm:at8 b 0 % 32<32:=by omega
 have HE:Hid (XK b k=if k=203 then ((get b 2 2+1)*4,decide (1≤at8 b 0 % 32) && decide (at8 b 0 % 32≤15) && decide ((get b 2 2+1)*4=4+4*(at8 b 0 % 32))) else if k=205 then ((get b 2 2+1)*4,decide (16≤(get b 2 2+1)*4) && decide ((get b 2 2+1)*4≤76)) else ((get b 2 2+1)*4,decide ((get b 2 2+1)*4=12))):=rfl;have Tn:∀ n,O0 203 n=4+4*n:=fun n=>by unfold O0;rw [ZR rfl]
 clear hc hv;generalize XK b k=X at *
 generalize at8 b 0 % 32=m at *
 generalize get b 2 2=n at *
 have en:(((n+1)*4:Nat):Int)=((n:Int)+1)*4:=by omega
 by_cases h0:k=203
 ·subst h0;have CZ:=MT 203 m w Zo;rw [Tn,show ((4+4*m:Nat):Int)=4+4*(m:Int) by omega] at CZ;have HCZ:=Zh CZ;have HF:Hid (X=((n+1)*4,decide (1≤m) && decide (m≤15) && decide ((n+1)*4=4+4*m))):=by show _=_;rw [HE.o,ZR rfl]
  clear HE CZ Tn;by_cases h1:1≤m
  ·have q1:decide ((1:Int)≤(m:Int))=true:=Wi Zo;by_cases h2:m≤15
   ·have q2:decide ((m:Int)≤15)=true:=Wi Zo
    have HX:Hid (X=((n+1)*4,(((n:Int)+1)*4 == 4+4*(m:Int)))):=by
     show _=_;rw [HF.o,Wi h1,Wi h2];simp only [Bool.true_and];congr 1
     rw [Bool.eq_iff_iff,Pz,beq_iff_eq];omega
    rw [HX.o];dsimp only;rw [en];clear HF HX h1 h2 en;exact fw
   ·have q2:decide ((m:Int)≤15)=false:=WI Zo;have HX:Hid (X=((n+1)*4,false)):=by show _=_;rw [HF.o,WI h2];simp
    rw [HX.o];dsimp only;rw [en];clear HF HX h1 h2 en HCZ;exact fO
  ·have q1:decide ((1:Int)≤(m:Int))=false:=WI Zo;have HX:Hid (X=((n+1)*4,false)):=by show _=_;rw [HF.o,WI h1];simp
   rw [HX.o];dsimp only;rw [en];clear HF HX h1 en HCZ;exact fO
 ·have b0:((k:Int) == 203)=false:=by rw [WR];omega
  by_cases h1:k=205
  ·subst h1;have C1:=MT 205 1 w Zo;have C2:=MT 205 16 w Zo;rw [show O0 205 1=16 from rfl] at C1;rw [show O0 205 16=76 from rfl] at C2;have DC:=Zh C1;have Hu:=Zh C2;have HF:Hid (X=((n+1)*4,decide (16≤(n+1)*4) && decide ((n+1)*4≤76))):=by show _=_;rw [HE.o,Z4 Zd,ZR rfl]
   clear HE C1 C2 Tn;by_cases h2:16≤(n+1)*4
   ·have q1:decide ((16:Int)≤((n:Int)+1)*4)=true:=Wi Zo
    have HX:Hid (X=((n+1)*4,decide (((n:Int)+1)*4≤76))):=by
     show _=_;rw [HF.o,Wi h2];simp only [Bool.true_and];congr 1;exact decide_eq_decide.2 Zo
    rw [HX.o];dsimp only;rw [en];clear HF HX h2 en;go_enter Tryz.func171,Tryz.ntmps171;go_wp2_with fail
    refine CG.o.mono ?_;rintro e w' ⟨rfl,rfl⟩;go_wp2_with fail
    refine DC.o.mono ?_;rintro e w' ⟨rfl,rfl⟩;go_wp2_with fail
    refine Hu.o.mono ?_;rintro e w' ⟨rfl,rfl⟩;go_wp2_with fail
    go_ret2
    exact ⟨rfl,rfl⟩
   ·have q1:decide ((16:Int)≤((n:Int)+1)*4)=false:=WI Zo;have HX:Hid (X=((n+1)*4,false)):=by show _=_;rw [HF.o,WI h2];simp
    rw [HX.o];dsimp only;rw [en];clear HF HX h2 en Hu;go_enter Tryz.func171,Tryz.ntmps171;go_wp2_with fail
    refine CG.o.mono ?_;rintro e w' ⟨rfl,rfl⟩;go_wp2_with fail
    refine DC.o.mono ?_;rintro e w' ⟨rfl,rfl⟩;go_wp2_with fail
    go_ret2
    exact ⟨rfl,rfl⟩
  ·have b1:((k:Int) == 205)=false:=by rw [WR];omega
   have CZ:=MT k 0 w Zo;rw [show O0 k 0=12 by unfold O0;rw [Z4 h0,Z4 h1]] at CZ;have HCZ:=Zh CZ
   have HX:Hid (X=((n+1)*4,(((n:Int)+1)*4 == 12))):=by
    show _=_;rw [HE.o,Z4 h0,Z4 h1];congr 1
    rw [Bool.eq_iff_iff,Pz,beq_iff_eq];omega
   rw [HX.o];dsimp only;rw [en];clear HE HX h0 h1 en CZ Tn;exact fw
end Go.Proofs.By
namespace Go.Proofs.By
open Go.RowKit Go.Proofs.Heap
def YO (l:List Int):List Value:=l.map (Value.int .u32)
def Wj (p:Int × Int):List Value:=(Qy p.1 p.2)
def Xb (x:qQ):List Value:=(Qt x.YE x.lost x.total x.high x.d_ x.last x.delay)
theorem Vo:Elem Tryz.prog 29 66 1 4:=⟨Tryz.underlying29,⟨.int .u32 0,by kernel_rfl,rfl⟩,by decide⟩
theorem KT:Elem Tryz.prog 171 226 2 4:=⟨Tryz.underlying171,⟨.agg (Qy 0 0),by kernel_rfl,rfl⟩,by decide⟩
def dZ (i:Ro) (bv gv pv:Value):Value:= .agg #[.int .i64 i.kind,.int .u32 i.YE,.int .u64 i.Ie,.int .u32 i.time,.int .u32 i.WY,.int .u32 i.octets,bv,gv,.int .u32 i.X5,pv]
structure S8 (w:World) (v:Value) (i:Ro):Prop where
 ex:∃ bv gv pv,v=dZ i bv gv pv∧Row w 228 bv i.blocks.length (i.blocks.flatMap Xb)∧Row w 66 gv i.gone.length (YO i.gone)∧Row w 226 pv i.XA.length (i.XA.flatMap Wj)
abbrev Vu (k s m:Int) (gv pv:Value):Array Value:=#[.int .i64 k,.int .u32 s,.int .u64 0,.int .u32 0,.int .u32 0,.int .u32 0,.slice none 0 0,gv,.int .u32 m,pv]
structure PB (w w':World) (k s m:Int) (gv pv:Value):Prop where
 Zg:Below w w w'
 vR:w'.heap[w.heap.size]?=some (.cells (Vu 0 0 0 (.slice none 0 0) (.slice none 0 0)) 173)
 Y8:w'.heap[w.heap.size+1]?=some (.cells (Vu k s m gv pv) 173)
theorem PB.size {w w':World} {k s m:Int} {gv pv:Value} (h:PB w w' k s m gv pv):w.heap.size+1<w'.heap.size:=by
 rcases Nat.lt_or_ge (w.heap.size+1) w'.heap.size with h1|h1
 ·exact h1
 ·have:=h.Y8;rw [E7 h1] at this;cases this
theorem PB.below {w w1 w':World} {k s m:Int} {gv pv:Value} (h:PB w w1 k s m gv pv) (hb:Below w1 w1 w'):PB w w' k s m gv pv:=by
 have hs:=h.size;exact ⟨h.Zg.trans (hb.mono Zo),by rw [hb.block _ Zo];exact h.vR,by rw [hb.block _ hs];exact h.Y8⟩
theorem PB.grown {w w1 w':World} {k s m:Int} {gv pv:Value} (h:PB w w1 k s m gv pv) {row:Option Nat} (hg:w1.grownBy w' row) (hr:∀ j,row=some j→w.heap.size+2≤j):PB w w' k s m gv pv:=by
 have hs:=h.size;refine ⟨h.Zg.trans ⟨hg.os,hg.tape,hg.output,hg.size,fun j hj=>hg.block j Zo (fun e=>by have:=hr j e.symm;omega)⟩,?_,?_⟩
 ·rw [hg.block _ Zo (fun e=>by have:=hr _ e.symm;omega)];exact h.vR
 ·rw [hg.block _ hs (fun e=>by have:=hr _ e.symm;omega)];exact h.Y8
theorem PB.cell {w w':World} {k s m:Int} {gv pv:Value} (h:PB w w' k s m gv pv) (j:Nat):w'.cell? ⟨w.heap.size+1,j,none⟩=(Vu k s m gv pv)[j]?:=by
 have:=h.Y8;simp only [World.cell?,this];rfl
theorem PB.frozen {w w':World} {k s m:Int} {gv pv:Value} (h:PB w w' k s m gv pv) (j:Nat):w'.frozen? ⟨w.heap.size+1,j,none⟩=false:=by
 have:=h.Y8;simp [World.frozen?,this]
theorem PB.setG {w w':World} {k s m:Int} {gv pv:Value} (h:PB w w' k s m gv pv) (v:Value):PB w (w'.setCell ⟨w.heap.size+1,7,none⟩ v) k s m v pv:=by
 exact fZ
theorem PB.setP {w w':World} {k s m:Int} {gv pv:Value} (h:PB w w' k s m gv pv) (v:Value):PB w (w'.setCell ⟨w.heap.size+1,9,none⟩ v) k s m gv v:=by
 exact fZ
theorem PB.start (w:World) (k s m:Int):PB w ((w.alloc (.cells (Vu 0 0 0 (.slice none 0 0) (.slice none 0 0)) 173)).alloc (.cells (Vu k s m (.slice none 0 0) (.slice none 0 0)) 173)) k s m (.slice none 0 0) (.slice none 0 0):=
 ⟨((YJ _ _).alloc (Zw _) _).alloc Zi _,(V5 w _ _).1,(V5 w _ _).2⟩
theorem En (b:List UInt8) (p j:Nat) (hj:j<(b.length-p) / 4):(XV b p).take (j+1)=(XV b p).take j++[get b (p+4*j:Nat) 4]:=by
 have hl:j<(XV b p).length:=by unfold XV;simpa using hj
 rw [List.take_succ_eq_append_getElem hl]
 congr 2
 simp [XV]
theorem GN (b:List UInt8) (p:Nat):(XV b p).length=(b.length-p) / 4:=by unfold XV;simp
theorem C_ {w w':World} {base:Nat} {e:TypeId} {size:Nat} {v:Value} {n:Nat} {xs:List Value} (h:w.ownsRow base e size v n xs) (hb:∀ k,base≤k→k<w.heap.size→w'.heap[k]?=w.heap[k]?):w'.ownsRow base e size v n xs:=by
 obtain ⟨h1,h2⟩:=h;refine ⟨h1,?_⟩;rcases h2 with h2|⟨g,cap,cur,hv,hg,hh,r⟩
 ·exact Ws h2
 ·have PV:g<w.heap.size:=by
   rcases Nat.lt_or_ge g w.heap.size with h|h
   ·exact h
   ·rw [E7 h] at hh;cases hh
  exact Wh ⟨g,cap,cur,hv,hg,by rw [hb g hg PV];exact hh,r⟩
theorem U8 {w:World} {base:Nat} {e:TypeId} {size:Nat} {v:Value} {n:Nat} {xs:List Value} (h:w.ownsRow base e size v n xs) {b o:Nat} (hp:b<base) (u:Value):(w.setCell ⟨b,o,none⟩ u).ownsRow base e size v n xs:=
 C_ h fun k hk _=>MH _ _ _ _ (by show k≠b;omega)
theorem Yw {w w':World} {base:Nat} {e:TypeId} {size:Nat} {v:Value} {n:Nat} {xs:List Value} (h:w.ownsRow base e size v n xs) (hb:Below w w w'):w'.ownsRow base e size v n xs:=C_ h fun k _ hk=>hb.block k hk
theorem Lh {base:Nat} {e:TypeId} {size:Nat} {v:Value} {n:Nat} {xs:List Value} {w:World} (h:w.ownsRow base e size v n xs):∀ k,v.ownBlock=some k→base≤k:=by
 intro k hk;obtain ⟨_,h⟩:=h;rcases h with ⟨rfl,_⟩|⟨g,cap,cur,rfl,hg,_⟩
 ·cases hk
 ·have hk:some g=some k:=hk;cases hk;exact hg
theorem Vz (w:World) (e:TypeId) (n:Nat) (xs:List Value) (hn:n≤maxLen):Row (w.alloc (.cells xs.toArray e)) e (.slice (some ⟨w,0,none⟩) n n) n xs:=
 ⟨_,n,rfl,Zw _,hn,(fun h=>by cases h),Wh ⟨_,0,xs.toArray,(0,0),rfl,Z8 _ _,fun j _=>by simp⟩⟩
theorem PB.frozen0 {w w':World} {k s m:Int} {gv pv:Value} (h:PB w w' k s m gv pv) (j:Nat):w'.frozen? ⟨w,j,none⟩=false:=by
 have:=h.vR;simp [World.frozen?,this]
theorem PB.cell0 {w w':World} {k s m:Int} {gv pv:Value} (h:PB w w' k s m gv pv) (j:Nat):w'.cell? ⟨w,j,none⟩=(Vu 0 0 0 (.slice none 0 0) (.slice none 0 0))[j]?:=by
 have:=h.vR;simp only [World.cell?,this];rfl
theorem jJ (w:World) (k:Nat) (v0 v1 v2 v3 v4 v5 v6 v7 v8 v9:Value):Fr w (· = k) w ((((((((((w.setCell ⟨k,0,none⟩ v0).setCell ⟨k,1,none⟩ v1).setCell ⟨k,2,none⟩ v2).setCell ⟨k,3,none⟩ v3).setCell ⟨k,4,none⟩ v4).setCell ⟨k,5,none⟩ v5).setCell ⟨k,6,none⟩ v6).setCell ⟨k,7,none⟩ v7).setCell ⟨k,8,none⟩ v8).setCell ⟨k,9,none⟩ v9):=((((((((((Fr.refl _ _ _).setAt 0 v0).setAt 1 v1).setAt 2 v2).setAt 3 v3).setAt 4 v4).setAt 5 v5).setAt 6 v6).setAt 7 v7).setAt 8 v8).setAt 9 v9
theorem uX (a b:Nat):((a+4*b:Nat):Int)=(a:Int)+4*(b:Int):=by omega
theorem tA (v:Value) (b:List UInt8) (w:World) (hv:X6 w v b) (h4:b.length % 4=0) (hb:b.length≤1000) (Oj:4≤b.length) :
  Calls Tryz.prog 172 #[v,.int .i64 203] w fun e w'=>(∃ a,e = .returned a∧S8 w' a (parts b 203))∧Below w w w':=by
 have HV:Hid (∀ w',Below w w w'→X6 w' v b):=fun w' h=>hv.below h
 have hlen:=hv.len;obtain ⟨a,c,rfl,R4,-⟩:=id hv;obtain ⟨m,hm⟩:∃ m,b.length=4+4*m:=⟨(b.length-4) / 4,Zo⟩
 have HW:Hid (∀ j,j<m→((XV b 4).take (j+1)).map (fun n:Nat=>(n:Int))=((XV b 4).take j).map (fun n:Nat=>(n:Int))++[(get b (4+4*(j:Int)) 4:Int)]):=fun j hj=>by
  rw [En b 4 j Zo,NR,uX];rfl
 have mH:Hid ((XV b 4).length=m):=by show _=_;rw [GN];omega
 have HWT:Hid (∀ j,j≤m→(((XV b 4).take j).map (fun n:Nat=>(n:Int))).length=j):=fun j hj=>by rw [TB,S4,mH.o];omega
 have HE:Hid (parts b 203={XT with kind:=203,gone:=(XV b 4).map fun (n:Nat)=>(n:Int)}):=rfl;have CN:Hid (∀ w' (j:Nat),Below w w w'→Calls Tryz.prog 183 (Q7 a b.length c (4+4*(j:Int))) w' fun e w1=>e = .returned (.int .u32 (get b (4+4*(j:Int)) 4:Nat))∧w'=w1):=fun w' j h=>PT _ b _ w' (HV.o w' h)
 have Bx:=Zh (PB.start w 203 0 0);clear hv HV;rw [hm];rw [hm] at CN;have di:m≤250:=by omega
 generalize parts b 203=X at *
 clear hm hlen h4 hb Oj R4;go_enter Tryz.func172,Tryz.ntmps172;go_wp2;go_loopw [6] (fun i w'=>∃ (j:Nat) (gv:Value),j≤m∧i = .int .i64 (4+4*(j:Int))∧PB w w' 203 0 0 gv (.slice none 0 0)∧w'.ownsRow (w.heap.size+2) 66 1 gv j (YO (((XV b 4).take j).map (fun n:Nat=>(n:Int))))) (fun i _=>4+4*m-(intOf i).toNat)
 case atStart=>exact ⟨0,.slice none 0 0,Tk _,rfl,Bx.o,TY _ _ _ _⟩
 case round=>
  clear Bx;obtain ⟨j,gv,hj,rfl,Ej,YH⟩:=hrel;have Rn:=Zh Ej;have Yh:=Zh YH;have TR:=Ej.size;have c7:wr.cell? ⟨w.heap.size+1,7,none⟩=some gv:=Ej.cell 7;have c5:=Ej.Y8;clear Ej YH;by_cases zX:j<m
  ·have CN1:=Zh (CN.o wr j Rn.o.Zg);have y_:=Zh (HW.o j zX);have hn:get b (4+4*(j:Int)) 4<4294967296:=U5 b _ 4 4 Zd;clear c5;generalize get b (4+4*(j:Int)) 4=n at *
   go_wp2_with (first|(go_at_call 183;refine CN1.o.mono ?_;rintro e w' ⟨rfl,rfl⟩)|(at_builtin;refine YV rfl (.tmp 30) (.tmp 32) 29 rfl (w.heap.size+2) Vo gv j _ rfl (Yh.o.alloc _) _ 1 [.int .u32 (n:Int)] rfl (Vz wr 66 1 [.int .u32 (n:Int)] Zd) rfl (by intro u hu;simp at hu;subst hu;rfl) Zo Zo Ug (fun v' w5 HO HG=>?_);have Bz:=Zh ((Rn.o.below (Z' wr (.cells #[.int .u32 (n:Int)] 66))).grown HG.o (Lh Yh.o));have JG:=Bz.o.size;have f7:=Bz.o.frozen 7;have c75:w5.cell? ⟨w.heap.size+1,7,none⟩=some gv:=Bz.o.cell 7;obtain ⟨va,vc,o5,-,-⟩:=Row.Z6 HO.o;subst o5))
   go_roundw
   case rel=>exact ⟨j+1,_,Zo,Zn,Bz.o.setG _,by rw [y_.o];exact U8 (by have:=HO.o;unfold YO at this ⊢;rw [NR];exact this) Zo _⟩
   case measure=>simp [intOf];omega
  ·obtain rfl:j=m:=by omega
   have ZY:=Row.Z6 Yh.o;obtain ⟨va,vc,rfl,-,-⟩:=id ZY;have e0:=Rn.o.cell 0;have e1:=Rn.o.cell 1;have e2:=Rn.o.cell 2;have e3:=Rn.o.cell 3;have e4:=Rn.o.cell 4;have e5:=Rn.o.cell 5;have e6:=Rn.o.cell 6;have e8:=Rn.o.cell 8;have e9:=Rn.o.cell 9;simp only [Vu,SE,SD,R8] at e0 e1 e2 e3 e4 e5 e6 e8 e9;have U':=Zh ZY;have g0:=fun k=>Rn.o.frozen0 k
   have g00:=g0 0;have z0:=Rn.o.cell0 0;have g10:=g0 1;have z1:=Rn.o.cell0 1;have g20:=g0 2;have z2:=Rn.o.cell0 2;have g30:=g0 3;have z3:=Rn.o.cell0 3;have g40:=g0 4;have z4:=Rn.o.cell0 4;have g50:=g0 5;have z5:=Rn.o.cell0 5;have g60:=g0 6;have z6:=Rn.o.cell0 6;have g70:=g0 7;have z7:=Rn.o.cell0 7;have g80:=g0 8;have z8:=Rn.o.cell0 8;have g90:=g0 9;have z9:=Rn.o.cell0 9;simp only [Vu,SE,SD,R8] at z0 z1 z2 z3 z4 z5 z6 z7 z8 z9;clear ZY c5 g0;have HT:Hid ((XV b 4).take j=XV b 4):=FL (by rw [mH.o];exact Zw _);have Bt:Hid (((XV b 4).map (fun n:Nat=>(n:Int))).length=j):=by show _=_;rw [TB];exact mH.o
   have HK:Hid (∀ w',Fr wr (· = w.heap.size) wr w'→(Row w' 66 (.slice va j vc) j (YO (((XV b 4).take j).map (fun n:Nat=>(n:Int))))∧Below w w w')):=fun w' hf=>
    ⟨U'.o.fr hf (Zw _) (fun k c' fr hk e=>by subst hk;rw [Rn.o.vR] at e;injection e with e;injection e with _ e _;exact absurd e Zd),Rn.o.Zg.trans (Fr.below (hf.mono (gf (Nat.lt_trans (Nat.lt_succ_self _) TR)) (fun k hk hs=>by have hs:k=w.heap.size:=hs;omega)))⟩
   go_wp2;refine VD (v:= .agg (Qe 203 0 0 0 0 0 none 0 0 va j vc 0 none 0 0)) (by simp [results,Tryz.results172,go_sem,z0,z1,z2,z3,z4,z5,z6,z7,z8,z9]) rfl ⟨⟨_,rfl,?_⟩,?_⟩
   ·have h:=HK.o _ (jJ wr w.heap.size (.int .i64 203) (.int .u32 0) (.int .u64 0) (.int .u32 0) (.int .u32 0) (.int .u32 0) (.slice none 0 0) (.slice va j vc) (.int .u32 0) (.slice none 0 0));rw [HT.o] at h;refine ⟨.slice none 0 0,.slice va j vc,.slice none 0 0,by rw [HE.o];rfl,by rw [HE.o];exact Row.nil _ _,?_,by rw [HE.o];exact Row.nil _ _⟩;rw [HE.o];show Row _ _ _ ((XV b 4).map (fun n:Nat=>(n:Int))).length _;rw [Bt.o]
    with_reducible exact h.1
   ·have h:=HK.o _ (jJ wr w.heap.size (.int .i64 203) (.int .u32 0) (.int .u64 0) (.int .u32 0) (.int .u32 0) (.int .u32 0) (.slice none 0 0) (.slice va j vc) (.int .u32 0) (.slice none 0 0))
    with_reducible exact h.2
end Go.Proofs.By
namespace Go.Proofs.By
open Go.RowKit Go.Proofs.Heap
theorem ZV {P:Program} {ops:Array Oper} {rest:List Oper} {o:Oper} {a:Act} {w:World} {Q:Exit→Act→World→Prop} (Mb:o.guard=none) (ty:TypeId) (x y:Operand) (ho:o.op = .store ty x y)
  (hd:o.dst=none) (g:Nat) (cells:Array Value) (hx:a.eval x = .pointer (some ⟨g,0,none⟩)) (hy:a.eval y = .agg cells)
  (t:TypeId) (old:Array Value) (hg:w.heap[g]?=some (.cells old t (0,0))) (hi:(P.info? ty).map (·.size)=some cells.size)
  (hold:old.size=cells.size) (h1:cells.all (·.oneCell')=true)
  (h:wpList P ops Q rest a (w.setRow g cells)):wpList P ops Q (o :: rest) a w:=
 Go.wpList_store_row Mb ty x y ho g cells hx hy t old hg hi hold h1 (by rw [hd];exact h)
theorem ZU {P:Program} {ops:Array Oper} {rest:List Oper} {o:Oper} {a:Act} {w:World} {Q:Exit→Act→World→Prop} (ty:TypeId) (x y:Operand) (_:o.op = .store ty x y) (h:wpList P ops Q (o :: rest) a w):wpList P ops Q (o :: rest) a w:=h
def G6 (p:KI) (cv ev pv:Value):Value:= .agg #[.bool p.XP,.int .i64 p.type,.int .u16 p.seq,.int .u32 p.time,.int .u32 p.YE,cv,.bool p.XO,.int .u16 p.Yl,ev,pv,.int .i64 p.pad]
structure N0 (w:World) (v:Value) (p:KI):Prop where
 ex:∃ cv ev pv,v=G6 p cv ev pv∧Row w 66 cv p.VN.length (YO p.VN)∧Row w 5 ev p.ext.length (RD p.ext)∧Row w 5 pv p.ZG.length (RD p.ZG)
theorem cell_of {w:World} {b:Nat} {cs:Array Value} {e:TypeId} (h:w.heap[b]?=some (.cells cs e)) (j:Nat):w.cell? ⟨b,j,none⟩=cs[j]?:=by
 simp only [World.cell?,h];rfl
theorem ZO {w:World} {b:Nat} {cs:Array Value} {e:TypeId} (h:w.heap[b]?=some (.cells cs e)) (j:Nat):w.frozen? ⟨b,j,none⟩=false:=by
 simp [World.frozen?,h]
theorem xJ (v:Value) (b:List UInt8) (w:World) (hv:X6 w v b) (h0:(looks b).2≠0) :
  Calls Tryz.prog 125 #[v] w fun e w'=>(∃ a,e = .returned (.tuple #[a,.int .i64 (YM b).2])∧N0 w' a (YM b).1)∧Below w w w':=by
 have HX:Hid (YM b=(WT,(looks b).2)):=by show _=_;unfold YM;rw [ZR h0]
 have C:=fun w1 h=>Ao v b w1 (hv.below (h:Below w w w1))
 have HC:=Zh C;obtain ⟨a,c,rfl,R4,-⟩:=id hv;clear C hv;have bl:((looks b).2 != 0)=true:=by rw [RQ];exact h0
 have bl2:((looks b).2 == 0)=false:=by rw [WR];exact h0
 generalize YM b=X at *
 generalize looks b=Y at *
 go_enter Tryz.func125,Tryz.ntmps125;go_wp2_with fail
 refine (HC.o _ (Z' _ _)).mono ?_;rintro e w2 ⟨rfl,Y7⟩;have z0:=Y7.block w.heap.size BJ;rw [Z8] at z0;have zz:w.heap.size+1≤w2.heap.size:=by have h:=Y7.size;have h:(w.heap.push _).size≤w2.heap.size:=h;rw [OI] at h;exact h
 have y0:=((Z' w2 (.cells (Qn (Y.1.1:Nat) (Y.1.2.1:Nat) (Y.1.2.2:Nat)) 238)).block w.heap.size Zo).trans z0;have z1:=cell_of y0 0;have z2:=cell_of y0 1;have z3:=cell_of y0 2;have z4:=cell_of y0 3;have z5:=cell_of y0 4;have z6:=cell_of y0 5;have z7:=cell_of y0 6;have z8:=cell_of y0 7;have z9:=cell_of y0 8;have qi:=cell_of y0 9;have z11:=cell_of y0 10;simp only [SE,SD,R8] at z1 z2 z3 z4 z5 z6 z7 z8 z9 qi z11;have JD:=fun (R:World→Prop) (h:R (w2.alloc (.cells (Qn (Y.1.1:Nat) (Y.1.2.1:Nat) (Y.1.2.2:Nat)) 238)))=>(by rw [setRow_self _ _ _ _ _ y0];exact h:R ((w2.alloc (.cells (Qn (Y.1.1:Nat) (Y.1.2.1:Nat) (Y.1.2.2:Nat)) 238)).setRow w.heap.size VC))
 have HS:=Zh JD;clear JD z0 HC;go_wp2_with (with_reducible refine ZU 79 (.tmp 2) (.tmp 15) rfl ?_;go_loud (refine ZV rfl 79 (.tmp 2) (.tmp 15) rfl rfl w.heap.size VC rfl rfl 79 _ y0 ZB ZB ZB ?_;refine HS.o _ ?_))
 refine VD (v:= .tuple (Qo VC Y.2)) (by simp [results,Tryz.results125,go_sem,z1,z2,z3,z4,z5,z6,z7,z8,z9,qi,z11]) rfl ⟨⟨_,by rw [HX.o],?_⟩,?_⟩
 ·exact ⟨.slice none 0 0,.slice none 0 0,.slice none 0 0,by rw [HX.o];rfl,by rw [HX.o];exact Row.nil _ _,by rw [HX.o];exact Row.nil _ _,by rw [HX.o];exact Row.nil _ _⟩
 ·have h3:=Z' w2 (.cells (Qn (Y.1.1:Nat) (Y.1.2.1:Nat) (Y.1.2.2:Nat)) 238);have h4:=h3.mono (show w.heap.size≤w2.heap.size by omega);have h5:=Y7.mono (show w.heap.size≤(w.heap.push _).size by rw [OI];exact Ix _);exact ((Z' w _).trans h5).trans h4
theorem pB {b:List UInt8} (h:(looks b).2=0):12≤b.length∧b.length≤512∧12≤(looks b).1.1∧(looks b).1.1≤(looks b).1.2.1∧(looks b).1.2.1≤(looks b).1.2.2∧(looks b).1.2.2≤b.length:=by
 unfold looks at h ⊢;by_cases h1:512<b.length
 ·rw [ZR h1] at h;cases h
 rw [Z4 h1] at h ⊢;by_cases h2:b.length<12
 ·rw [ZR h2] at h;cases h
 rw [Z4 h2] at h ⊢;by_cases h3:at8 b 0 / 64≠2
 ·rw [ZR h3] at h;cases h
 rw [Z4 h3] at h ⊢;by_cases h4:192≤at8 b 1∧at8 b 1≤223
 ·rw [ZR h4] at h;cases h
 rw [Z4 h4] at h ⊢;dsimp only at h ⊢
 have hE:(Vq b (12+4*(at8 b 0 % 16))).2=true→12≤(Vq b (12+4*(at8 b 0 % 16))).1.1∧(Vq b (12+4*(at8 b 0 % 16))).1.1≤(Vq b (12+4*(at8 b 0 % 16))).1.2∧(Vq b (12+4*(at8 b 0 % 16))).1.2≤b.length:=by
  unfold Vq;by_cases g:at8 b 0 / 16 % 2=0
  ·rw [ZR g];intro h;have h:=of_decide_eq_true h;exact ⟨Nat.le_add_right _ _,Zw _,h⟩
  ·rw [Z4 g];intro h;have h:=(UR _ _).mp h;have h:=of_decide_eq_true h.2;exact ⟨by show 12≤12+4*(at8 b 0 % 16)+4;omega,Nat.le_add_right _ _,h⟩
 generalize Vq b (12+4*(at8 b 0 % 16))=x at *
 by_cases h5:x.2=false
 ·rw [ZR h5] at h;cases h
 rw [Z4 h5] at h ⊢;obtain ⟨e1,e2,e3⟩:=hE (by simpa using h5)
 have hP:(R3 b (b.drop x.1.2)).2=true→(R3 b (b.drop x.1.2)).1≤b.length-x.1.2:=by
  unfold R3;by_cases g:at8 b 0 / 32 % 2=0
  ·rw [ZR g];intro _;exact Tk _
  rw [Z4 g];by_cases g2:(b.drop x.1.2).length=0
  ·rw [ZR g2];intro h;cases h
  rw [Z4 g2];dsimp only;by_cases g3:at8 (b.drop x.1.2) ((b.drop x.1.2).length-1)=0∨(b.drop x.1.2).length<at8 (b.drop x.1.2) ((b.drop x.1.2).length-1)
  ·rw [ZR g3];intro h;cases h
  rw [Z4 g3];have hl:(b.drop x.1.2).length=b.length-x.1.2:=Rg;split
  ·intro _;show at8 _ _≤_;omega
  ·intro h;cases h
 generalize R3 b (b.drop x.1.2)=y at *
 by_cases h6:y.2=false
 ·rw [ZR h6] at h;cases h
 rw [Z4 h6];have:=hP (by simpa using h6);exact ⟨Zo,Zo,e1,e2,by show x.1.2≤b.length-y.1;omega,by show b.length-y.1≤b.length;omega⟩
theorem ZW {w:World} {g:Nat} {o:Obj} (h:w.heap[g]?=some o):g<w.heap.size:=by
 rcases Nat.lt_or_ge g w.heap.size with h1|h1
 ·exact h1
 ·rw [E7 h1] at h;cases h
theorem VH {w:World} {g:Nat} {c:Array Value} {t:TypeId} {f:Nat × Nat} (h:w.heap[g]?=some (.cells c t f)) (o:Nat) (u:Value):(w.setCell ⟨g,o,none⟩ u).heap[g]?=some (.cells (c.setIfInBounds o u) t f):=by
 simp [World.setCell,Array.getElem?_modify,h]
theorem Tq (w:World) (g:Nat) (c:Array Value):Fr w (· = g) w (w.setRow g c):=
 ⟨rfl,rfl,rfl,by simp [World.setRow],fun k _ hk=>setRow_other w g k _ (fun e=>hk e)⟩
theorem Row.setRow {w:World} {e:TypeId} {v:Value} {n:Nat} {xs:List Value} (h:Row w e v n xs) {g:Nat} {c:Array Value} {t:TypeId} {f:Nat × Nat} (hg:w.heap[g]?=some (.cells c t f)) (WK:e≠t) (c':Array Value):Row (w.setRow g c') e v n xs:=
 h.fr (Tq w g c') (Zw _) (fun k _ _ hk=>by have hk:k=g:=hk;rw [hk,hg];intro h;injection h with h;injection h with _ h;exact WK h.symm)
def zpkt:List Value:=Yz3
structure PK (w w':World) (s p:Nat) (sh cs:List Value):Prop where
 Zg:Below w w w'
 res:w'.heap[w.heap.size]?=some (.cells zpkt.toArray 79)
 az:w'.heap[s]?=some (.cells sh.toArray 238)
 Y8:w'.heap[p]?=some (.cells cs.toArray 79)
 lt:w.heap.size<s∧s<p
theorem PK.sS {w w':World} {s p:Nat} {sh cs:List Value} (h:PK w w' s p sh cs):p<w'.heap.size:=ZW h.Y8
theorem PK.cell {w w':World} {s p:Nat} {sh cs:List Value} (h:PK w w' s p sh cs) (j:Nat):w'.cell? ⟨p,j,none⟩=cs[j]?:=by
 rw [cell_of h.Y8 j];exact SE
theorem PK.frozen {w w':World} {s p:Nat} {sh cs:List Value} (h:PK w w' s p sh cs) (j:Nat):w'.frozen? ⟨p,j,none⟩=false:=ZO h.Y8 j
theorem PK.Q_ {w w':World} {s p:Nat} {sh cs:List Value} (h:PK w w' s p sh cs) (j:Nat):w'.cell? ⟨s,j,none⟩=sh[j]?:=by
 rw [cell_of h.az j];exact SE
theorem PK.drew {w w':World} {s p:Nat} {sh cs:List Value} (h:PK w w' s p sh cs):PK w w'.drew s p sh cs:=⟨h.Zg.drew,h.res,h.az,h.Y8,h.lt⟩
theorem PK.below {w w1 w':World} {s p:Nat} {sh cs:List Value} (h:PK w w1 s p sh cs) (hb:Below w1 w1 w'):PK w w' s p sh cs:=by
 have hk:=h.sS;have hl:=h.lt;refine ⟨h.Zg.trans (hb.mono Zo),?_,?_,?_,hl⟩
 ·rw [hb.block _ Zo];exact h.res
 ·rw [hb.block _ Zo];exact h.az
 ·rw [hb.block _ Zo];exact h.Y8
theorem PK.set {w w':World} {s p:Nat} {sh cs:List Value} (h:PK w w' s p sh cs) (j:Nat) (u:Value):PK w (w'.setCell ⟨p,j,none⟩ u) s p sh (cs.set j u):=by
 have hl:=h.lt;refine ⟨h.Zg.setCell (p:=⟨p,j,none⟩) (by show w.heap.size≤p;omega) u,?_,?_,?_,hl⟩
 ·rw [MH _ _ _ _ (by show w.heap.size≠p;omega)];exact h.res
 ·rw [MH _ _ _ _ (by show s≠p;omega)];exact h.az
 ·rw [VH h.Y8 j u];simp
theorem PK.grown {w w1 w':World} {s p:Nat} {sh cs:List Value} (h:PK w w1 s p sh cs) {row:Option Nat} (hg:w1.grownBy w' row) (hr:∀ j,row=some j→p<j):PK w w' s p sh cs:=by
 have hk:=h.sS;have hl:=h.lt;refine ⟨h.Zg.trans ⟨hg.os,hg.tape,hg.output,hg.size,fun i hi=>hg.block i Zo (fun e=>by have:=hr i e.symm;omega)⟩,?_,?_,?_,hl⟩
 ·rw [hg.block _ Zo (fun e=>by have:=hr _ e.symm;omega)];exact h.res
 ·rw [hg.block _ Zo (fun e=>by have:=hr _ e.symm;omega)];exact h.az
 ·rw [hg.block _ hk (fun e=>by have:=hr _ e.symm;omega)];exact h.Y8
theorem PK.row {w w':World} {s p:Nat} {sh cs:List Value} (h:PK w w' s p sh cs) (cs':List Value):PK w (w'.setRow (p) cs'.toArray) s p sh cs':=by
 have hl:=h.lt;have hf:=Tq w' (p) cs'.toArray;have hk:=h.sS;refine ⟨h.Zg.trans (Fr.below (hf.mono (show w.heap.size≤w'.heap.size by omega) (fun j hj hs=>by have hs:j=p:=hs;omega))),?_,?_,setRow_heap _ _ _ _ _ _ h.Y8,hl⟩
 ·rw [hf.block _ Zo (fun hs=>by have hs:w.heap.size=p:=hs;omega)];exact h.res
 ·rw [hf.block _ Zo (fun hs=>by have hs:s=p:=hs;omega)];exact h.az
structure PL (w w':World) (s p:Nat) (sh cs:List Value) (cv:Value) (j:Nat) (xs:List Value):Prop where
 pk:PK w w' s p sh cs
 own:w'.ownsRow (p+1) 66 1 cv j xs
theorem PL.grown {w w1 w':World} {s p:Nat} {sh cs:List Value} {cv:Value} {j:Nat} {xs:List Value} (h:PL w w1 s p sh cs cv j xs) (hg:w1.grownBy w' cv.ownBlock):PK w w' s p sh cs:=
 h.pk.grown hg (fun i hi=>by have:=Lh h.own i hi;omega)
structure PR (w w':World) (s p:Nat) (sh cs:List Value) (cv ev pv:Value) (xs:List Int) (es ps:List UInt8):Prop where
 pk:PK w w' s p sh cs
 csr:Row w' 66 cv xs.length (YO xs)
 exr:Row w' 5 ev es.length (RD es)
 pyl:Row w' 5 pv ps.length (RD ps)
theorem PR.below {w w1 w':World} {s p:Nat} {sh cs:List Value} {cv ev pv:Value} {xs:List Int} {es ps:List UInt8} (h:PR w w1 s p sh cs cv ev pv xs es ps) (hb:Below w1 w1 w'):PR w w' s p sh cs cv ev pv xs es ps:=
 ⟨h.pk.below hb,h.csr.below hb,h.exr.below hb,h.pyl.below hb⟩
theorem PR.drew {w w1:World} {s p:Nat} {sh cs:List Value} {cv ev pv:Value} {xs:List Int} {es ps:List UInt8} (h:PR w w1 s p sh cs cv ev pv xs es ps):PR w w1.drew s p sh cs cv ev pv xs es ps:=
 h.below (YJ _ _).drew
theorem PR.set {w w1:World} {s p:Nat} {sh cs:List Value} {cv ev pv:Value} {xs:List Int} {es ps:List UInt8} (h:PR w w1 s p sh cs cv ev pv xs es ps) (j:Nat) (u:Value):PR w (w1.setCell ⟨p,j,none⟩ u) s p sh (cs.set j u) cv ev pv xs es ps:=
 ⟨h.pk.set j u,h.csr.setCell (p:=⟨p,j,none⟩) h.pk.Y8 Zd u,h.exr.setCell (p:=⟨p,j,none⟩) h.pk.Y8 Zd u,h.pyl.setCell (p:=⟨p,j,none⟩) h.pk.Y8 Zd u⟩
end Go.Proofs.By
namespace Go.Proofs.By
open Go.Proofs.Rm (Room YB VE of YS Y_ Wm Zv)
def Xj (p s:Int):Int:=if VE p 9 && VE s 9 then 3221225472+(256*p+s) else 0
def U9 (x:Int):Int × Int × Bool:=
 if VE ((x+1073741824) % 4294967296 / 256) 9 && VE ((x+1073741824) % 4294967296 % 256) 9 then ((x+1073741824) % 4294967296 / 256,(x+1073741824) % 4294967296 % 256,true) else (0,0,false)
theorem Xn {n m:Int}:VE n m=true↔1≤n∧n<m:=by unfold VE;simp
theorem EU {x p s:Int} (h0:0≤x) (h1:x<4294967296):(VE p 9=true∧VE s 9=true∧Xj p s=x)↔U9 x=(p,s,true):=by
 unfold U9 Xj;constructor
 ·rintro ⟨h2,h3,h4⟩;rw [h2,h3] at h4;have h4:3221225472+(256*p+s)=x:=by simpa using h4
  rw [Xn] at h2 h3;have e1:(x+1073741824) % 4294967296 / 256=p:=by omega
  have e2:(x+1073741824) % 4294967296 % 256=s:=by omega
  rw [e1,e2,Xn.2 h2,Xn.2 h3];rfl
 ·intro h;split at h
  ·rename_i hc
   injection h with h2 h3
   injection h3 with h3 _
   rw [h2,h3,UR] at hc;rw [hc.1,hc.2];rw [Xn,Xn] at hc;refine ⟨rfl,rfl,?_⟩;show (if true && true then _ else _)=x;simp only [Bool.and_self,if_true];omega
  ·injection h with _ h;injection h with _ h;cases h
def owned (R:Room) (peer x:Int):Bool:=(of R x).2.2 && decide ((R.src (of R x).1.toNat).own=peer)
def Uy (R:Room) (peer x:Int):Bool:=(U9 x).2.2 && decide ((U9 x).1=peer) && Zv R peer (U9 x).2.1
def vS (e:Int):Int:=if e=0 then 0 else 1
def Ze (peer:Int):List Int→Room→(List YB × Room) × Int
 | [],R=>(([],R),0)
 | x :: l,R=>
  (((YS R peer x).1.1++(Ze peer l (YS R peer x).1.2).1.1,(Ze peer l (YS R peer x).1.2).1.2),vS (YS R peer x).2+(Ze peer l (YS R peer x).1.2).2)
theorem Oi (peer x:Int):∀ (l:List Int) (R:Room),
  Ze peer (l++[x]) R=(((Ze peer l R).1.1++(YS (Ze peer l R).1.2 peer x).1.1,(YS (Ze peer l R).1.2 peer x).1.2),(Ze peer l R).2+vS (YS (Ze peer l R).1.2 peer x).2)
 | [],R=>by simp only [Ze,J2,um,Int.add_zero,Int.zero_add]
 | y :: l,R=>by
  have ih:=Oi peer x l (YS R peer y).1.2;rw [List.cons_append];unfold Ze;rw [ih];simp only [gb,Int.add_assoc]
def Yf (R:Room) (peer:Int) (i:Ro):(List YB × Room) × Int:=
 if i.kind=200 then (([],R),if owned R peer i.YE then 0 else 1)
 else if i.kind=205∨i.kind=206 then (([],R),if Uy R peer i.X5 then 0 else 1)
 else if i.kind=203 then Ze peer i.gone R
 else (([],R),0)
def ZC (peer:Int):List Ro→Room→(List YB × Room) × Int
 | [],R=>(([],R),0)
 | x :: l,R=>(((Yf R peer x).1.1++(ZC peer l (Yf R peer x).1.2).1.1,(ZC peer l (Yf R peer x).1.2).1.2),(Yf R peer x).2+(ZC peer l (Yf R peer x).1.2).2)
theorem Om (peer:Int) (x:Ro):∀ (l:List Ro) (R:Room),
  ZC peer (l++[x]) R=(((ZC peer l R).1.1++(Yf (ZC peer l R).1.2 peer x).1.1,(Yf (ZC peer l R).1.2 peer x).1.2),(ZC peer l R).2+(Yf (ZC peer l R).1.2 peer x).2)
 | [],R=>by simp only [ZC,J2,um,Int.add_zero,Int.zero_add]
 | y :: l,R=>by
  have ih:=Om peer x l (Yf R peer y).1.2;rw [List.cons_append];unfold ZC;rw [ih];simp only [gb,Int.add_assoc]
structure FI where
 kind:Int
 source:Int
 N6:Int
 err:Int
deriving DecidableEq
structure Taken where
 XC:FI
 XW:KI
 WJ:FJ
 items:List Ro
 turns:List YB
 unknown:Int
def UB:Taken:=⟨⟨0,0,0,0⟩,WT,Tu,[],[],0⟩
def Yb (kind err:Int):Taken:={UB with XC:=⟨kind,0,0,err⟩}
def Vg (R:Room) (ep peer:Int) (p:KI) (d:FJ):Taken:=
 if owned R peer p.YE && decide ((of R p.YE).2.1=d.ZH) then {UB with XC:=⟨1,(of R p.YE).1,ep,0⟩,XW:=p,WJ:=d} else Yb 5 0
def Ub (ep:Int) (l:List Ro) (ts:List YB) (u:Int):Taken:={UB with XC:=⟨2,0,ep,0⟩,items:=l,turns:=ts,unknown:=u}
def YG (R:Room) (ep peer:Int) (b:List UInt8):(Taken × Room) × Int:=
 if (XN b).2≠0 then ((Yb 3 (XN b).2,R),ep)
 else if !Y_ R peer then ((Yb 4 0,R),ep)
 else match (XN b).1 with
  | .X5 p d=>((Vg R ep peer p d,R),ep)
  | .XX l=>((Ub (ep+1) l (ZC peer l R).1.1 (ZC peer l R).2,(ZC peer l R).1.2),ep+1)
  | .none=>((Ub (ep+1) [] [] 0,R),ep+1)
def take (R:Room) (ep:Int) (o:Rm.Op) (b:List UInt8) (sv:Value):(Taken × Room) × Int:=
 if o.kind=1 then YG R ep o.peer b
 else if (Wm R o sv).2≠0 then ((Yb 6 (Wm R o sv).2,R),ep)
 else ((Ub (ep+1) [] (Wm R o sv).1.1 0,(Wm R o sv).1.2),ep+1)
end Go.Proofs.By
