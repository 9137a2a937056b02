/- Part of a proof. -/
import Derived.Test.YtpdjhlcbcomdkaaGreatDoorF22
import Derived.Test.YtpdjhlcbcomdkaaGreatDoorF26
set_option linter.unusedVariables false
set_option linter.unusedSimpArgs false
set_option maxRecDepth 100000
set_option maxHeartbeats 16000000
open Go Go.Q Go.Qr
namespace Go.Proofs.By
open Go.RowKit Go.Proofs.Heap
theorem I1 {n:Nat} (h:n<256):((UInt8.ofNat n).toNat:Int)=(n:Int):=by rw [UInt8.toNat_ofNat'];omega
theorem yg (n:Nat) (w:World) (hn:n<65536):Calls Tryz.prog 147 #[.int .i64 2,.int .u64 (n:Int)] w fun e w'=>(∃ v,e = .returned v∧Row w' 5 v 2 (Sr [UInt8.ofNat (n / 256),UInt8.ofNat (n % 256)]))∧Below w w w':=by
  have lZ:∀ w:World,(Instr.makeSlice 30 (.int .i64 2) (.int .i64 2)).run Tryz.prog w = .ok (.slice (some ⟨w,0,none⟩) 2 2) (w.alloc (.cells (Qv 0 0) 5)):=fun w=>by kernel_rfl
  have vF:max (2:Int) 0=2:=by decide
  have hR:Hid (∀ w':World,w'.heap[w.heap.size]?=some (.cells (Qv ((n / 256:Nat):Int) ((n % 256:Nat):Int)) 5 (0,0))→Row w' 5 (.slice (some ⟨w,0,none⟩) 2 2) 2 (Sr [UInt8.ofNat (n / 256),UInt8.ofNat (n % 256)])):=fun w' h=>by
    refine Row.ZV (base:=0) (size:=1) ⟨rfl,Wj ⟨w,2,_,rfl,TS _,h,by decide,by decide,rfl,?_⟩⟩
    simp only [Sr,List.map_cons,List.map_nil,I1 (show n / 256<256 by omega),I1 (show n % 256<256 by omega)]
    rfl
  have a1:IntKind.u8.wrap ((n:Int) % 256)=(n:Int) % 256:=by rw [IntKind.wrap_u8];omega
  have a2:IntKind.u8.wrap ((n:Int) / 256 % 256)=(n:Int) / 256 % 256:=by rw [IntKind.wrap_u8];omega
  have hz:=Z5 w (.cells (Qv 0 0) 5)
  have OH:Hid (Below w w (w.alloc (.cells (Qv 0 0) 5))):=Z' w _
  go_enter Tryz.func147,Tryz.ntmps147
  go_wp2_with fail
  go_loopw [1,6] (fun s1 s6 w'=>Below w w w'∧((s6 = .int .i64 1∧s1 = .int .u64 (n:Int)∧w'.heap[w.heap.size]?=some (.cells (Qv 0 0) 5 (0,0)))∨(s6 = .int .i64 0∧s1 = .int .u64 ((n:Int) / 256)∧w'.heap[w.heap.size]?=some (.cells (Qv 0 ((n:Int) % 256)) 5 (0,0)))∨(s6 = .int .i64 (-1)∧s1 = .int .u64 ((n:Int) / 256 / 256)∧w'.heap[w.heap.size]?=some (.cells (Qv ((n:Int) / 256 % 256) ((n:Int) % 256)) 5 (0,0))))) (fun _ s6 _=>(intOf s6+1).toNat)
  case atStart=>exact ⟨OH.o,Wc ⟨rfl,rfl,hz⟩⟩
  case round=>
    obtain ⟨SD,h⟩:=hrel
    have Rf:=Zh SD
    clear SD
    rcases h with ⟨rfl,rfl,hb⟩|⟨rfl,rfl,hb⟩|⟨rfl,rfl,hb⟩
    · have k1:=cell_of hb 1
      have f1:=ZI hb 1
      simp only [R9,R8,RT] at k1
      have Y0:=WA hb 1 (.int .u8 ((n:Int) % 256))
      go_wp2
      go_roundw
      case rel=>exact ⟨((Fr.Z9 Lm Rf.o).setCell (p:=⟨w,1,none⟩) (Wc (ZB _)) _).below,Wj (Wc ⟨rfl,rfl,Y0⟩)⟩
      case measure=>simp [intOf]
    · have k1:=cell_of hb 0
      have f1:=ZI hb 0
      simp only [R9,R8,RT] at k1
      have Y0:=WA hb 0 (.int .u8 ((n:Int) / 256 % 256))
      go_wp2
      go_roundw
      case rel=>exact ⟨((Fr.Z9 Lm Rf.o).setCell (p:=⟨w,0,none⟩) (Wc (ZB _)) _).below,Wj (Wj ⟨rfl,rfl,Y0⟩)⟩
      case measure=>simp [intOf]
    · have e1:((n / 256:Nat):Int)=(n:Int) / 256 % 256:=by omega
      have e2:((n % 256:Nat):Int)=(n:Int) % 256:=by omega
      have HRR:=Zh (hR.o wr (by rw [e1,e2];exact hb))
      clear hR
      go_wp2
      go_ret
      exact ⟨⟨_,rfl,HRR.o⟩,Rf.o⟩
theorem J1 (ly fr:Int) (ke st:Bool) (w:World) (h0:0≤ly):Calls Tryz.prog 146 #[.agg (Qd ly ke st fr)] w fun e w'=>e = .returned (.bool (decide (ly≤2)))∧Below w w w':=by
  have d0:decide (0≤ly)=true:=Ws h0
  go_enter Tryz.func146,Tryz.ntmps146
  go_wp2
  go_ret
  exact ⟨rfl,Z' w _⟩
def Ss (ly:Nat) (ke st:Bool):Nat:=ly+(if ke then 128 else 0)+(if st then 64 else 0)
theorem vX (w:World) (e:TypeId) (size n m base:Nat) (xs:List Value) (hl:xs.length=n*size) (hn:n≤maxLen) (hm:m=w.heap.size) (hB:base≤m):(w.alloc (.cells xs.toArray e)).ownsRow base e size (.slice (some ⟨m,0,none⟩) n n) n xs:=by
  exact az
theorem AZ (ly fr:Nat) (ke st:Bool) (w:World) (hl:ly≤2) (hf:fr<65536):Calls Tryz.prog 119 #[.agg (Qd (ly:Int) ke st (fr:Int))] w fun e w'=>(∃ v,e = .returned v∧Row w' 5 v 4 (Sr [UInt8.ofNat (Ss ly ke st),90,UInt8.ofNat (fr / 256),UInt8.ofNat (fr % 256)]))∧Below w w w':=by
  have CM:=Zh (fun w'=>J1 (ly:Int) (fr:Int) ke st w' Zo)
  have CB:=Zh (fun w'=>yg fr w' hf)
  have dl:decide ((ly:Int)≤2)=true:=Ws Zo
  have a9:IntKind.u64.wrap (fr:Int)=(fr:Int):=by rw [IntKind.wrap_u64];omega
  have OH:Hid (Below w w (w.alloc (.cells (Qd (ly:Int) ke st (fr:Int)) 81))):=Z' w _
  have hz:=Z5 w (.cells (Qd (ly:Int) ke st (fr:Int)) 81)
  obtain ⟨x,hx⟩:∃ x:Int,x=((Ss ly ke st:Nat):Int):=⟨_,rfl⟩
  have HY:Hid (Sr [UInt8.ofNat (Ss ly ke st),90,UInt8.ofNat (fr / 256),UInt8.ofNat (fr % 256)]=[.int .u8 x,.int .u8 90]++Sr [UInt8.ofNat (fr / 256),UInt8.ofNat (fr % 256)]):=by
    show _=_
    have iM:Ss ly ke st<256:=by unfold Ss;split <;> split <;> omega
    simp only [Sr,List.map_cons,List.map_nil,I1 iM,hx]
    rfl
  rw [HY.o]
  clear HY
  cases ke <;> cases st
  case' false.false=>
    have a0:IntKind.u8.wrap (ly:Int)=x:=by rw [IntKind.wrap_u8,hx];simp [Ss];omega
  case' false.true=>
    have a0:IntKind.u8.wrap (ly:Int)=(ly:Int):=by rw [IntKind.wrap_u8];omega
    have a1:IntKind.u8.wrap ((ly:Int)+64)=x:=by rw [IntKind.wrap_u8,hx];simp [Ss];omega
  case' true.false=>
    have a0:IntKind.u8.wrap (ly:Int)=(ly:Int):=by rw [IntKind.wrap_u8];omega
    have a1:IntKind.u8.wrap ((ly:Int)+128)=x:=by rw [IntKind.wrap_u8,hx];simp [Ss];omega
  case' true.true=>
    have a0:IntKind.u8.wrap (ly:Int)=(ly:Int):=by rw [IntKind.wrap_u8];omega
    have a1:IntKind.u8.wrap ((ly:Int)+128)=(ly:Int)+128:=by rw [IntKind.wrap_u8];omega
    have a2:IntKind.u8.wrap ((ly:Int)+128+64)=x:=by rw [IntKind.wrap_u8,hx];simp [Ss];omega
  all_goals
    clear hx hl
    go_enter Tryz.func119,Tryz.ntmps119
    go_upto_region 3 with (go_at_call 146;refine (CM.o _).mono ?_;rintro e w2 ⟨rfl,Y0⟩;have XA:=Zh (OH.o.trans (Y0.mono OH.o.size));have SG:=(Y0.block _ (ZQ hz)).trans hz;clear Y0)
    have q0:w2.cell? ⟨w,0,none⟩=some (.int .i64 (ly:Int)):=Zc SG 0 rfl
    have q1:=cell_of SG 1
    have q2:=cell_of SG 2
    have q3:w2.cell? ⟨w,3,none⟩=some (.int .u16 (fr:Int)):=Zc SG 3 rfl
    simp only [R9,R8,RT] at q1 q2
    have q4:=((Z' w2 (.cells (Qv x 90) 5)).cell (p:=⟨w,3,none⟩) (ZQ SG)).trans q3
    have M8:Hid ((w2.alloc (.cells (Qv x 90) 5)).ownsRow w 5 1 (.slice (some ⟨w2,0,none⟩) 2 2) 2 (Qv x 90)):=vX w2 5 1 2 w2.heap.size w.heap.size (Qv x 90) rfl Zd rfl XA.o.size
    have T_:Hid (Below w w (w2.alloc (.cells (Qv x 90) 5))):=ZA XA.o (ZB _) _
    have HN9:Hid (∀ u∈Sr [UInt8.ofNat (fr / 256),UInt8.ofNat (fr % 256)],u.oneCell'=true):=fun u hu=>by
      simp only [Sr,List.map_cons,List.map_nil,KG,List.mem_nil_iff,or_false] at hu
      rcases hu with rfl|rfl <;> rfl
    clear hz SG
    go_wp2_with (first|(go_at_call 147;refine (CB.o _).mono ?_;rintro e w4 ⟨⟨v4,rfl,hr⟩,TE⟩;have HR4:=Zh hr;have Ur:=Zh (T_.o.trans (TE.mono T_.o.size));have HOW4:=Zh (X9 M8.o TE);clear hr TE)|(at_builtin;refine Za rfl (.tmp 19) (.tmp 23) 30 rfl w.heap.size Wn (.slice (some ⟨w2,0,none⟩) 2 2) 2 (Qv x 90) rfl HOW4.o v4 2 (Sr [UInt8.ofNat (fr / 256),UInt8.ofNat (fr % 256)]) rfl HR4.o rfl HN9.o Zd Zd Ur.o.size (fun v5 w5 kB mM=>?_)))
    go_ret
    exact ⟨⟨_,rfl,Row.ZV kB.o⟩,((Fr.Z9 Lm Ur.o).grown mM.o Ur.o.size (Rm.Yw HOW4.o)).below⟩
theorem DG (ly fr:Int) (ke st:Bool) (w:World) (h2:2<ly):Calls Tryz.prog 119 #[.agg (Qd ly ke st fr)] w fun e w'=>e = .returned (.slice none 0 0)∧Below w w w':=by
  have CM:=Zh (fun w'=>J1 ly fr ke st w' Zo)
  have OH:Hid (Below w w (w.alloc (.cells (Qd ly ke st fr) 81))):=Z' w _
  have dl:decide (ly≤2)=false:=WN Zo
  go_enter Tryz.func119,Tryz.ntmps119
  go_wp2_with (go_at_call 146;refine (CM.o _).mono ?_;rintro e w2 ⟨rfl,Y0⟩;have XA:=Zh (OH.o.trans (Y0.mono OH.o.size));clear Y0)
  go_ret
  exact ⟨rfl,XA.o⟩
open Go.Proofs.Rm (YE)
def there (x:XJ) (at':Int):Bool:=decide (x.bgn<at') && decide (at'≤x.fin)
end Go.Proofs.By
namespace Go.Proofs.By
open Go.RowKit Go.WideShapes Go.ChangeShapes Go.Proofs.Heap Go.Proofs.Mem Go.Deep
open Go.Proofs.Rm (eK XF Zb Wx Gd NZ Lt seven OA Op)
structure Tz (w:World) (v:Value) (L:List QM):Prop where
 row:Yf w v L.length (L.flatMap fun y=>XF y.x)
 each:∀ y∈L,Yf w (.slice y.x.sa y.x.o.ZO.length y.x.sc) y.x.o.ZO.length (Zb y.x.o.ZO)∧Yn w (.slice y.x.ba y.x.bl y.x.bc) y.b∧y.x.o.name.length<9223372036854775807
theorem Tz.below {w w':World} {v:Value} {L:List QM} (h:Tz w v L) (hb:Below w w w'):Tz w' v L:=⟨h.row.below hb,fun y hy=>⟨(h.each y hy).1.below hb,(h.each y hy).2.1.below hb,(h.each y hy).2.2⟩⟩
section
variable {H:Type} {enc:TypeId × Value→H} {W:World} {base:Nat} {sp:Nat→Bool} {held:Bool}
theorem tX {z:Int} (h:(Lit.int .u8 z).wf=true):0≤z∧z<256:=by
 have h:=(Ui _ _).mp h
 have h1:=of_decide_eq_true h.1
 have h2:=of_decide_eq_true h.2
 have e1:IntKind.min .u8=0:=by decide
 have e2:IntKind.max .u8=255:=by decide
 omega
theorem tT {fuel:Nat} {v:Value} {x:DataW H × List MemPlace} (h:DataW.trod enc Tryz.prog W base sp held fuel 30 [v]=some x):∃ (l:List UInt8) (a:Option Addr) (n c:Nat),v = .slice a n c∧Yn W (.slice a n c) l:=by
 rcases open_slice1 Tryz.underlying30 Zg h with ⟨hc,_⟩|⟨a,len,cap,m,n,V,D,Pl,SK,hb,hl,hm,cX,_,hx⟩
 ·exact ⟨[],none,0,0,by simpa using hc,Yf.nil _⟩
 ·have Dl:len≤m:=by rw [cX];split <;> omega
  have hv:v = .slice (some a) len cap:=by simpa using SK
  have key:∀ i,i<len→∃ z:UInt8,W.cell? (a.add i)=some (.int .u8 (z.toNat:Int))∧V i = .int .u8 (z.toNat:Int):=by
   intro i hi
   obtain ⟨h1,h2⟩:=hx i Zo
   obtain ⟨z,hz,_,hwf⟩:=DataW.trod_int Tryz.underlying5 h2
   obtain ⟨r0,r1⟩:=tX hwf
   have hz:V i = .int .u8 z:=by simpa using hz
   have e:((UInt8.ofNat z.toNat).toNat:Int)=z:=by
    rw [UInt8.toNat_ofNat']
    omega
   exact ⟨UInt8.ofNat z.toNat,by rw [h1,hz,e],by rw [hz,e]⟩
  let l:List UInt8:=(List.range len).map fun i=>match V i with | .int _ z=>UInt8.ofNat z.toNat|_=>0
  have yY:l.length=len:=by simp [l]
  refine ⟨l,some a,len,cap,hv,some a,cap,by rw [yY],by rw [yY];exact hl,hm,(fun h=>by cases h),?_⟩
  by_cases h0:len=0
  ·exact Wc (DM (by rw [XI,yY];exact h0))
  ·obtain ⟨z0,pS,_⟩:=key 0 Zo
   have sL:W.cell? a=some (.int .u8 (z0.toNat:Int)):=by unfold Addr.add at pS;simpa using pS
   have ha:=NZ sL
   refine Wj ⟨a.block,a.off,by rw [←ha],World.block_lt_of_cell? W a sL,fun j hj=>?_⟩
   rw [XI,yY] at hj
   obtain ⟨z,hz,hV⟩:=key j hj
   rw [←Lt ha,hz]
   have hlj:l[j]?=some z:=by
    have e:UInt8.ofNat z.toNat=z:=by simp
    simp [l,hj,hV]
   simp only [Sr,List.getElem?_map,hlj,Option.map_some]
theorem tS {fuel:Nat} {cs:List Value} {x:DataW H × List MemPlace} (h:DataW.trod enc Tryz.prog W base sp held fuel 32 cs=some x) :
  ∃ y:QM,cs=XF y.x∧(Yf W (.slice y.x.sa y.x.o.ZO.length y.x.sc) y.x.o.ZO.length (Zb y.x.o.ZO)∧Yn W (.slice y.x.ba y.x.bl y.x.bc) y.b)∧y.x.o.name.length∈x.1.weights Tryz.prog 32:=by
 obtain ⟨xs,n,_,uz,hlen,dK,hf⟩:=DataW.trod_struct Tryz.underlying32 h
 have hC:Tryz.prog.cellsOf 32=7:=by kernel_rfl
 have k1:Tryz.prog.cellsOf 3=1:=by kernel_rfl
 have k2:Tryz.prog.cellsOf 9=1:=by kernel_rfl
 have k3:Tryz.prog.cellsOf 29=1:=by kernel_rfl
 have k4:Tryz.prog.cellsOf 30=1:=by kernel_rfl
 rw [hC] at hlen
 obtain ⟨c0,c1,c2,c3,c4,c5,c6,rfl⟩:∃ c0 c1 c2 c3 c4 c5 c6,cs=[c0,c1,c2,c3,c4,c5,c6]:=seven hlen
 clear h hC
 have hx:∀ j,j<7→∃ y,xs[j]?=some y:=fun j hj=>⟨xs[j]'(by rw [dK];exact hj),VQ _⟩
 obtain ⟨y0,e0⟩:=hx 0 Zo
 obtain ⟨y1,e1⟩:=hx 1 Zo
 obtain ⟨y2,e2⟩:=hx 2 Zo
 obtain ⟨y3,e3⟩:=hx 3 Zo
 obtain ⟨y4,e4⟩:=hx 4 Zo
 obtain ⟨y5,e5⟩:=hx 5 Zo
 obtain ⟨y6,e6⟩:=hx 6 Zo
 have h0:DataW.trod enc Tryz.prog W base sp held n 3 (([c0,c1,c2,c3,c4,c5,c6].drop 0).take (Tryz.prog.cellsOf 3))=some y0:=(hf 0 _ rfl).trans e0
 have h1:DataW.trod enc Tryz.prog W base sp held n 3 (([c0,c1,c2,c3,c4,c5,c6].drop 1).take (Tryz.prog.cellsOf 3))=some y1:=(hf 1 _ rfl).trans e1
 have h2:DataW.trod enc Tryz.prog W base sp held n 3 (([c0,c1,c2,c3,c4,c5,c6].drop 2).take (Tryz.prog.cellsOf 3))=some y2:=(hf 2 _ rfl).trans e2
 have h3:DataW.trod enc Tryz.prog W base sp held n 3 (([c0,c1,c2,c3,c4,c5,c6].drop 3).take (Tryz.prog.cellsOf 3))=some y3:=(hf 3 _ rfl).trans e3
 have h4:DataW.trod enc Tryz.prog W base sp held n 9 (([c0,c1,c2,c3,c4,c5,c6].drop 4).take (Tryz.prog.cellsOf 9))=some y4:=(hf 4 _ rfl).trans e4
 have h5:DataW.trod enc Tryz.prog W base sp held n 29 (([c0,c1,c2,c3,c4,c5,c6].drop 5).take (Tryz.prog.cellsOf 29))=some y5:=(hf 5 _ rfl).trans e5
 have h6:DataW.trod enc Tryz.prog W base sp held n 30 (([c0,c1,c2,c3,c4,c5,c6].drop 6).take (Tryz.prog.cellsOf 30))=some y6:=(hf 6 _ rfl).trans e6
 rw [k1] at h0 h1 h2 h3
 rw [k2] at h4
 rw [k3] at h5
 rw [k4] at h6
 obtain ⟨z0,g0,_⟩:=DataW.trod_int Tryz.underlying3 h0
 obtain ⟨z1,g1,_⟩:=DataW.trod_int Tryz.underlying3 h1
 obtain ⟨z2,g2,_⟩:=DataW.trod_int Tryz.underlying3 h2
 obtain ⟨z3,g3,_⟩:=DataW.trod_int Tryz.underlying3 h3
 obtain ⟨s4,g4,gy4,hs4⟩:=DataW.trod_string Tryz.underlying9 h4
 obtain ⟨l5,a5,n5,g5,hr5⟩:=Gd (v:=c5) h5
 obtain ⟨b6,a6,l6,n6,g6,hr6⟩:=tT (v:=c6) h6
 have g0:c0 = .int .i64 z0:=by simpa using g0
 have g1:c1 = .int .i64 z1:=by simpa using g1
 have g2:c2 = .int .i64 z2:=by simpa using g2
 have g3:c3 = .int .i64 z3:=by simpa using g3
 have g4:c4 = .string s4:=by simpa using g4
 refine ⟨⟨⟨⟨z0,z1,z2,z3,s4.data.toList,l5⟩,a5,n5,a6,l6,n6⟩,b6⟩,?_,⟨hr5,hr6⟩,?_⟩
 ·rw [g0,g1,g2,g3,g4,g5,g6];simp only [XF,ki]
 ·exact Yx97
theorem vV {t:TypeId} {v:Value} {d:DataW H} {ps:List MemPlace} (ht:Tryz.prog.underlying t=some (.slice 32)) (MQ:v.cells=#[v]) (h:DataW.Trod enc Tryz.prog W base sp held t v d ps) (hz:∀ n∈d.weights Tryz.prog t,n≤reachBytes):∃ l,Tz W v l:=by
 obtain ⟨fuel,h⟩:=h
 rw [MQ] at h
 have hC:Tryz.prog.cellsOf 32=7:=by kernel_rfl
 rcases open_slice ht h with ⟨hc,_⟩|⟨a,len,cap,m,n,D,Pl,SK,hb,hl,hm,cX,hdx,hx⟩
 ·have:v = .slice none 0 0:=by simpa using hc
  subst this
  exact ⟨[],Yf.nil _,fun x hx=>by simp at hx⟩
 ·have Dl:len≤m:=by rw [cX];split <;> omega
  have hv:v = .slice (some a) len cap:=by simpa using SK
  subst hv
  have key:∀ i,∃ y:QM,i<len→(∀ j,j<7→W.cell? ((a.add (i*7)).add j)=(XF y.x)[j]?)∧(Yf W (.slice y.x.sa y.x.o.ZO.length y.x.sc) y.x.o.ZO.length (Zb y.x.o.ZO)∧Yn W (.slice y.x.ba y.x.bl y.x.bc) y.b∧y.x.o.name.length<9223372036854775807):=by
   intro i
   by_cases hi:i<len
   ·obtain ⟨cs',h1,h2⟩:=hx i Zo
    rw [hC] at h1
    obtain ⟨_,hcl',UO⟩:=World.cells?_some h1
    obtain ⟨y,hy,⟨hr,Lf⟩,hn⟩:=tS h2
    have jt:y.x.o.name.length<9223372036854775807:=by
     have hd:d = .slice ((List.range len).map D) ((List.range (m-len)).map fun j=>D (len+j)):=by injection hdx
     have:=hz y.x.o.name.length (by
      rw [hd]
      unfold DataW.weights
      rw [ht]
      refine List.mem_cons_of_mem _ (De.2 (Wc (OA (yG.2 ⟨i,by simpa using hi,rfl⟩) _ hn))))
     have:=Nat.lt_of_le_of_lt this reachBytes_lt
     omega
    refine ⟨y,fun _=>⟨fun j hj=>?_,hr,Lf,jt⟩⟩
    have:=UO j hj
    rw [←hy,this]
   ·exact ⟨⟨⟨⟨0,0,0,0,[],[]⟩,none,0,none,0,0⟩,[]⟩,fun h=>absurd h hi⟩
  obtain ⟨Y,hY⟩:=Classical.axiomOfChoice key
  let l:List QM:=(List.range len).map Y
  have yY:l.length=len:=by simp [l]
  refine ⟨l,⟨some a,cap,by rw [yY],by rw [yY];exact hl,hm,(fun h=>by cases h),?_⟩,?_⟩
  ·by_cases h0:len=0
   ·exact Wc (by rw [DM (yY.trans h0)];rfl)
   ·have hz:=(hY 0 Zo).1 0 Zo
    have pS:W.cell? a=some (.int .i64 (Y 0).x.o.kind):=by simpa [Addr.add,XF] using hz
    have ha:=NZ pS
    refine Wj ⟨a.block,a.off,by rw [←ha],World.block_lt_of_cell? W a pS,fun j hj=>?_⟩
    have GF:(l.flatMap fun y=>XF y.x).length=len*7:=by rw [XZ (fun y:QM=>XF y.x) 7 (fun _=>rfl),yY]
    rw [GF] at hj
    have hi:j / 7<len:=by omega
    have hli:l[j / 7]?=some (Y (j / 7)):=by simp [l,hi]
    have:=NJ (fun y:QM=>XF y.x) 7 (fun _=>rfl) l (j / 7) (j % 7) _ hli Zo
    exact aF
  ·intro x hx
   obtain ⟨i,hi,rfl⟩:=yG.1 hx
   exact (hY i (by simpa using hi)).2
end
open Go.Proofs
open Go.Proofs.Rm (U2 VG YM YE Room Z4 Inv WZ Z_ XU Wf Yk Yw YL below_drewN)
open Go.Proofs.N_ (Xe)
theorem rD:Elem Tryz.prog 22 32 7 96:=⟨Tryz.underlying22,⟨.agg bw,by kernel_rfl,rfl⟩,by decide⟩
theorem Hx {α:Type} (f:α→List Value) (k:Nat) (hk:∀ x,(f x).length=k):∀ (l:List α) (m:Nat),(l.flatMap f).take (m*k)=(l.take m).flatMap f
 | [],m=>by simp
 | x :: l,0=>by simp
 | x :: l,m+1=>by
  have h:=hk x
  rw [List.flatMap_cons,List.take_succ_cons,List.flatMap_cons,Nat.succ_mul,List.take_append,h,I8 Zo,show m*k+k-k=m*k by omega,Hx f k hk l m]
theorem Tz.take {w:World} {a:Option Addr} {c:Nat} {L:List QM} (h:Tz w (.slice a L.length c) L) {a':Option Addr} {K:Nat} (hK:K≤L.length)
  (hr:∀ w xs,K≤L.length→xs.length=L.length*7→Yf w (.slice a L.length c) L.length xs→Yf w (.slice a' K c) K (xs.take (K*7))):Tz w (.slice a' K c) (L.take K):=by
 have hl:(L.take K).length=K:=by rw [TU];omega
 refine ⟨?_,fun y hy=>h.each y (List.mem_of_mem_take hy)⟩
 rw [hl]
 have:=hr w _ hK (XZ (fun y:QM=>XF y.x) 7 (fun _=>rfl) L) h.row
 rwa [Hx (fun y:QM=>XF y.x) 7 (fun _=>rfl)] at this
theorem Tz.form {w:World} {v:Value} {L:List QM} (h:Tz w v L):∃ a c,v = .slice a L.length c∧L.length≤c∧c≤maxLen:=by
 obtain ⟨a,c,h1,h2,h3,_⟩:=h.row
 exact ⟨a,c,h1,h2,h3⟩
section
end
theorem Ux {P:Program} {w:World} {op:Oper} {a:Act} (ty:TypeId) (x:Operand) (ho:op.op = .load ty x) (b o:Nat) (hx:a.eval x = .pointer (some ⟨b,o,none⟩)) (cs:List Value) (d:TypeDesc) (hc:w.rangeAt b o cs)
  (hu:P.underlying ty=some d) (hd:d.isRow=true) (hi:(P.info? ty).map (·.size)=some cs.length):(execOp a.eval op).run P w = .ok (.value (.agg cs.toArray)) w:=by
 unfold execOp
 simp only [ho,hx,Instr.loadAt,Instr.sureAddr,Sem.run_bind,Sem.run_pure,Result.andThen_ok,run_loadVar_mid w b o ty cs d hc hu hd hi]
theorem nH (x:Gg):∀ u∈QS x,u.oneCell'=true:=by
 intro u hu
 simp only [QS,KG,List.mem_nil_iff,or_false] at hu
 rcases hu with rfl|rfl|rfl|rfl <;> rfl
theorem EA {α:Type} (f:α→List Value) (k:Nat) (hk:∀ x,(f x).length=k) {w:World} {e:TypeId} {a:Option Addr} {n c:Nat} {l:List α} (h:Row w e (.slice a n c) n (l.flatMap f)) (hl:0<l.length*k):∃ g off,a=some ⟨g,off,none⟩∧∀ (i:Nat) (x:α),l[i]?=some x→∀ j,j<k→w.cell? ⟨g,off+i*k+j,none⟩=(f x)[j]?:=by
 have GF:=XZ f k hk l
 obtain ⟨g,off,cap,h1,h2,h3,h4,h5⟩:=Row.open h (by rw [GF];exact hl)
 injection h1 with e1 _ _
 refine ⟨g,off,e1,fun i x hx j hj=>?_⟩
 have hi:i<l.length:=(List.getElem?_eq_some_iff.1 hx).1
 have Rj:i*k+j<l.length*k:=by
  have h6:(i+1)*k≤l.length*k:=Nat.mul_le_mul_right _ hi
  rw [Nat.succ_mul] at h6
  omega
 rw [Nat.add_assoc,h5 (i*k+j) (by rw [GF];exact Rj)]
 exact NJ f k hk l i j x hx hj
end Go.Proofs.By
namespace Go.Proofs.By
open Go.RowKit Go.Proofs.Heap Go.Proofs
open Go.Proofs.Rm (below_drewN)
section
variable {w w':World} {V k:Nat} {ov av mv lv:Value} {L:List QM} {x:XJ} {wv cv qv:Value}
theorem Lx {g o:Nat} {u:Value} (h:w.cell? ⟨g,o,none⟩=some u) (hb:Below w w w'):w'.cell? ⟨g,o,none⟩=some u:=by
 have hg:g<w.heap.size:=by
  rcases Nat.lt_or_ge g w.heap.size with h1|h1
  ·exact h1
  ·simp only [World.cell?,Gt h1] at h;cases h
 exact (hb.cell (p:=⟨g,o,none⟩) hg).trans h
end
open Go.Proofs.Mem
theorem Vs {P:Program} {fn:Func} {p u:Tmp} {ty:TypeId} (h:fn.results=#[.cell p ty,.tmp u]) (tmps:Array Value) (w:World) (g:Nat) (t:TypeId) (cs:Array Value) (fr:Nat × Nat) (d:TypeDesc)
  (hp:tmps.getD p undef = .pointer (some ⟨g,0,none⟩)) (hg:w.heap[g]?=some (.cells cs t fr))
  (hu:P.underlying ty=some d) (hd:(match d with | .struct _ | .array _ _=>true|_=>false)=true) (hi:(P.info? ty).map (·.size)=some cs.size) :
  (results fn tmps).run P w = .ok (.tuple #[.agg cs,tmps.getD u undef]) w:=by
 exact Yt6
theorem ry {x:Nat} (h:x<256):(Ss (x % 4) (decide (128≤x)) (decide (x / 64 % 2=1))=x)↔x / 4 % 16=0:=by
 unfold Ss
 by_cases h1:128≤x <;> by_cases h2:x / 64 % 2=1 <;> simp [h1,h2] <;> omega
theorem wK {b:List UInt8} (h:4≤b.length):b.take 4=[UInt8.ofNat (at8 b 0),UInt8.ofNat (at8 b 1),UInt8.ofNat (at8 b 2),UInt8.ofNat (at8 b 3)]:=by
 match b,h with
 | x0 :: x1 :: x2 :: x3 :: t,_=>simp [at8]
theorem rG {b:List UInt8} (h:4≤b.length):get b 2 2=at8 b 2*256+at8 b 3:=by
 match b,h with
 | x0 :: x1 :: x2 :: x3 :: t,_=>
  have hw:within (x0 :: x1 :: x2 :: x3 :: t).length 2 2=true:=within_iff.2 ⟨by decide,by decide,by decide,by simp;omega⟩
  unfold get
  rw [ZX hw]
  simp [be,at8]
theorem Hn {w:World} {v:Value} {l:List UInt8} (h:Yn w v l) (hl:0<l.length):(convert 30 9 v).run Tryz.prog w = .ok (.string (str l)) w:=by
 obtain ⟨g,off,cap,e,_,_,hc⟩:=DU h hl
 subst e
 exact run_convert_bytes_back w _ _ 5 ⟨g,off,none⟩ cap l Tryz.underlying30 Tryz.underlying5 Tryz.underlying9 (fun j hj=>by
  have e:(⟨g,off,none⟩:Addr).add j=⟨g,off+j,none⟩:=by unfold Addr.add;split <;> simp_all
  rw [e];exact hc j hj)
theorem Er (v:Value) (b:List UInt8) (w:World) (hv:Yn w v b) :
  Calls Tryz.prog 95 #[v] w fun e w'=>e = .returned (.tuple (Qn (Qd (YN b).1.Zu (YN b).1.key (YN b).1.start (YN b).1.frame) (YN b).2))∧Below w w w':=by
 have HV:Hid (∀ w',Below w w w'→Yn w' v b):=fun w' h=>hv.below h
 have HE:Hid (YN b=if b.length<4 then (Ue,2) else if at8 b 0 / 4 % 16≠0∨at8 b 0 % 4=3∨at8 b 1≠90 then (Ue,1) else (⟨(at8 b 0 % 4:Nat),decide (128≤at8 b 0),decide (at8 b 0 / 64 % 2=1),get b 2 2⟩,0)):=rfl
 obtain ⟨a,c,rfl,TH,xH⟩:∃ a c,v = .slice a b.length c∧b.length≤c∧c≤maxLen:=by
  obtain ⟨a,c,h1,h2,h3,_⟩:=id hv
  exact ⟨a,c,h1,h2,h3⟩
 clear hv
 have Vb:=Z' w (.cells (Qd 0 false false 0) 81)
 have hz:=Z5 w (.cells (Qd 0 false false 0) 81)
 generalize hX:YN b=X at *
 by_cases h1:b.length<4
 ·obtain rfl:X=(Ue,2):=by rw [HE.o,ZX h1]
  clear HE HV hX
  have l1:decide ((b.length:Int)<4)=true:=Ws Zo
  go_enter Tryz.func95,Tryz.ntmps95
  go_wp2
  exact VR (v:= .tuple (Qn (Qd 0 false false 0) 2)) (by simp [results,Tryz.results95,go_sem]) rfl ⟨rfl,Vb⟩
 obtain ⟨g,off,cap,e1,_,_,hc⟩:=SC (HV.o w (YG _ _)) Zo
 cases e1
 have HC:=Zh hc
 have r0:=XM b 0
 have r1:=XM b 1
 have r2:=XM b 2
 have r3:=XM b 3
 have l1:decide ((b.length:Int)<4)=false:=WN Zo
 have i0:(0:Int)<(b.length:Int):=by omega
 have i2:(2:Int)<(b.length:Int):=by omega
 have i3:(3:Int)<(b.length:Int):=by omega
 have rY:get b 2 2=at8 b 2*256+at8 b 3:=rG Zo
 obtain ⟨vs,U4,-,BB⟩:=RM (P:=Tryz.prog) Wn (some ⟨g,off,none⟩) b.length c 4 Zo
 have hs4:∀ w,(Instr.slice 30 (.slice (some ⟨g,off,none⟩) b.length c) none (some (.int .i64 4)) none).run Tryz.prog w = .ok (.slice vs 4 c) w:=U4
 have TE:b.take 4=[UInt8.ofNat (at8 b 0),UInt8.ofNat (at8 b 1),UInt8.ofNat (at8 b 2),UInt8.ofNat (at8 b 3)]:=wK Zo
 have Ur:Hid (∀ w',Below w w w'→Yn w' (.slice vs 4 c) (b.take 4)):=fun w' h=>by
  have h2:=BB w' (Sr b) Zo (by rw [XI,Nat.mul_one]) (HV.o w' h)
  rw [Nat.mul_one,PC] at h2
  have h3:(b.take 4).length=4:=by rw [TU];omega
  show Yf w' _ _ _
  rw [h3];exact h2
 rw [TE] at Ur
 have c0:=hc 0 Zo
 have c2:=hc 2 Zo
 have c3:=hc 3 Zo
 rw [Nat.add_zero] at c0
 rw [Z6 h1,rY] at HE
 clear rY U4 BB hc HC hX HV TE
 generalize at8 b 0=x0 at *
 generalize at8 b 1=x1 at *
 generalize at8 b 2=x2 at *
 generalize at8 b 3=x3 at *
 have q0:IntKind.u16.wrap ((x2:Int)*256)=(x2:Int)*256:=by rw [IntKind.wrap_u16];omega
 have q2:IntKind.u16.wrap (x2:Int)=(x2:Int):=by rw [IntKind.wrap_u16];omega
 have q3:IntKind.u16.wrap (x3:Int)=(x3:Int):=by rw [IntKind.wrap_u16];omega
 obtain ⟨fr,Xm⟩:∃ f:Nat,f=x2*256+x3:=⟨_,rfl⟩
 obtain ⟨ly,lX⟩:∃ l:Nat,l=x0 % 4:=⟨_,rfl⟩
 obtain ⟨ke,SL⟩:∃ k:Bool,k=decide (128≤x0):=⟨_,rfl⟩
 obtain ⟨st,AB⟩:∃ k:Bool,k=decide (x0 / 64 % 2=1):=⟨_,rfl⟩
 have p1:(x0:Int).tmod 4=(ly:Int):=by rw [Int.tmod_eq_emod_of_nonneg Zo];omega
 have p1b:IntKind.i64.wrap (ly:Int)=(ly:Int):=Ua _ Zo
 have p2:decide ((128:Int)≤(x0:Int))=ke:=by rw [SL,Bool.eq_iff_iff,NB,NB];omega
 have p2b:decide (128≤x0)=ke:=SL.symm
 obtain ⟨y,hy⟩:∃ y:Nat,y=x0 / 64:=⟨_,rfl⟩
 have p3:IntKind.u8.wrap ((x0:Int) / 64)=(y:Int):=by rw [IntKind.wrap_u8];omega
 have p4:((y:Int).tmod 2 == 1)=st:=by rw [AB,Bool.eq_iff_iff,beq_iff_eq,NB,Int.tmod_eq_emod_of_nonneg Zo];omega
 have p6:IntKind.u16.wrap (fr:Int)=(fr:Int):=by rw [IntKind.wrap_u16];omega
 have p5:(x2:Int)*256+(x3:Int)=(fr:Int):=by omega
 rw [←Xm] at HE
 rw [←lX,←SL,←AB] at HE
 have HL:Hid (fr=x2*256+x3∧ly=x0 % 4∧ke=decide (128≤x0)∧st=decide (x0 / 64 % 2=1)):=⟨Xm,lX,SL,AB⟩
 have hly4:ly<4:=by omega
 have hfr6:fr<65536:=by omega
 clear Xm lX SL AB hy
 have ZC:Hid (∀ w',Below w w w'→w'.cell? ⟨g,off,none⟩=some (.int .u8 (x0:Int))∧w'.cell? ⟨g,off+2,none⟩=some (.int .u8 (x2:Int))∧w'.cell? ⟨g,off+3,none⟩=some (.int .u8 (x3:Int))):=fun w' h=>⟨Lx c0 h,Lx c2 h,Lx c3 h⟩
 have n0:0<b.length:=by omega
 have n1:¬b.length=0:=by omega
 have n2:2<b.length:=by omega
 have n3:3<b.length:=by omega
 have n4:4≤b.length:=by omega
 clear h1
 generalize b.length=N at *
 have JG:=Zh Vb
 have HZ1:=Zh hz
 clear c0 c2 c3 Vb hz
 go_enter Tryz.func95,Tryz.ntmps95
 go_upto_region 3 with fail
 generalize w.alloc (.cells (Qd 0 false false 0) 81)=w1 at *
 have qF:Hid (∀ w',Below w1 w1 w'→w'.cell? ⟨g,off,none⟩=some (.int .u8 (x0:Int))∧w'.cell? ⟨g,off+2,none⟩=some (.int .u8 (x2:Int))∧w'.cell? ⟨g,off+3,none⟩=some (.int .u8 (x3:Int))):=fun w' h=>ZC.o _ (JG.o.trans (h.mono JG.o.size))
 refine QN ?_
 refine Z3.Yq (d:=27) (S:=(fun w'=>w'.cell? ⟨g,off,none⟩=some (.int .u8 (x0:Int))∧w'.cell? ⟨g,off+2,none⟩=some (.int .u8 (x2:Int))∧w'.cell? ⟨g,off+3,none⟩=some (.int .u8 (x3:Int)))) Zk ?_ (fun Yb=>?_)
 ·(try dsimp only)
  exact qF.o _ (YG _ _).drew
 refine YP 0 (h:=YP 1 (h:=YP 5 (h:=YP 6 (h:=YP 9 (h:=YP 10 (h:=YP 15 (h:=YP 16 (h:=YP 20 (h:=YP 21 (h:=YK 2 (h:=YP 3 (h:=YP 4 (h:=YK 7 (h:=YP 8 (h:=YK 11 (h:=YP 12 (h:=YP 13 (h:=YP 14 (h:=YK 17 (h:=YP 18 (h:=YP 19 (h:=YK 22 (h:=YP 23 (h:=YP 24 (h:=YP 25 (h:=?_))))))))))))))))))))))))))
 refine YR 26 (h:=fun K hK=>?_)
 go_simp
 refine Z3.Xl hK _ _ ?_ (fun XX=>?_)
 ·(try dsimp only)
  exact qF.o _ (by first|exact (YG _ _).drew|exact ZA (YG _ _).drew (ZB _) _)
 clear hK K
 try simp only [Z3.pt]
 refine YR 27 (h:=fun K hK=>?_)
 go_simp
 refine Z3.WO hK _ _ Zk ?_
 clear hK K
 try simp only [Z3.pt]
 refine Z3.Xz Zk ?_ _
 refine Py ?_
 have HK:Hid ((((w1.alloc (.cells (Qd (ly:Int) ke st (fr:Int)) 81)).drew)).heap[w1.heap.size]?=some (.cells (Qd (ly:Int) ke st (fr:Int)) 81 (0,0))):=Z5 w1 _
 have HB13:Hid (Below w1 w1 (((w1.alloc (.cells (Qd (ly:Int) ke st (fr:Int)) 81)).drew))):=(Z' w1 _).drew
 have HZ3:=Zh ((HB13.o.block _ (ZQ HZ1.o)).trans HZ1.o)
 have T_:Hid (Below w w (((w1.alloc (.cells (Qd (ly:Int) ke st (fr:Int)) 81)).drew))):=(JG.o.trans ((Z' w1 _).mono JG.o.size)).drew
 clear ZC qF Yb q0 q2 q3 i0 i2 i3 n0 n1 n2 n3 p1 p1b p2 p2b p3 p4 p5 p6 l1
 go_upto_region 4 with fail
 generalize ((w1.alloc (.cells (Qd (ly:Int) ke st (fr:Int)) 81)).drew)=w3 at *
 generalize w1.heap.size=K at *
 have OU:Hid (∀ w',Below w3 w3 w'→w'.rangeAt K 0 (Qd (ly:Int) ke st (fr:Int))∧Below w3 w3 w'):=fun w' hb=>⟨fun m v hm=>by rw [OD,cell_of ((hb.block _ (ZQ HK.o)).trans HK.o) m];simpa using hm,hb⟩
 have HCV:Hid (∀ wS,Below w3 w3 wS→(convert 30 9 (.slice vs 4 c)).run Tryz.prog wS = .ok (.string (str [UInt8.ofNat x0,UInt8.ofNat x1,UInt8.ofNat x2,UInt8.ofNat x3])) wS):=fun wS h=>Hn (Ur.o wS (T_.o.trans (h.mono T_.o.size))) (Nat.succ_pos _)
 have Vj:Hid (∀ w' d,Below w3 w3 w'→w'.heap[w.heap.size]?=some (.cells (Qd 0 false false 0) 81 (0,0))∧Below w w (w'.setRow w.heap.size d)):=fun w' d h=>⟨(h.block _ (ZQ HZ3.o)).trans HZ3.o,Z0 (T_.o.trans (h.mono T_.o.size)) (ZB _) _⟩
 have HAB:Hid ((¬ly=3)→([UInt8.ofNat (Ss ly ke st),90,UInt8.ofNat (fr / 256),UInt8.ofNat (fr % 256)]=[UInt8.ofNat x0,UInt8.ofNat x1,UInt8.ofNat x2,UInt8.ofNat x3]↔x0 / 4 % 16=0∧x1=90)):=fun h3=>by
  obtain ⟨e1,e2,e3,e4⟩:=HL.o
  have hd:=ry r0
  rw [←e2,←e3,←e4] at hd
  have GD:Ss ly ke st<256:=by unfold Ss;split <;> split <;> omega
  have i1:∀ a b:Nat,a<256→b<256→(UInt8.ofNat a=UInt8.ofNat b↔a=b):=fun a b ha hb=>⟨fun h=>by have h:=congrArg UInt8.toNat h;rw [UInt8.toNat_ofNat',UInt8.toNat_ofNat'] at h;omega,fun h=>by rw [h]⟩
  have f1:fr / 256=x2:=by omega
  have f2:fr % 256=x3:=by omega
  rw [f1,f2]
  simp only [List.cons.injEq,and_true]
  rw [i1 _ _ GD r0,hd,show (90:UInt8)=UInt8.ofNat 90 from rfl,i1 _ _ Zd r1]
  exact ⟨fun h=>⟨h.1,h.2.symm⟩,fun h=>⟨h.1,h.2.symm⟩⟩
 have hse:(str [UInt8.ofNat x0,UInt8.ofNat x1,UInt8.ofNat x2,UInt8.ofNat x3]).toList.isEmpty=false:=by rw [Rm.JE];rfl
 generalize [UInt8.ofNat x0,UInt8.ofNat x1,UInt8.ofNat x2,UInt8.ofNat x3]=lb at *
 clear Ur
 by_cases h3:ly=3
 ·have HX:Hid (X=(Ue,1)):=by show _=_;rw [HE.o,ZX (Wj (Wc h3))]
  have CP:=Zh (DG (ly:Int) (fr:Int) ke st w3.drew Zo)
  clear h3 HAB HE HL
  have cv0:∀ w:World,(convert 30 9 (.slice none 0 0)).run Tryz.prog w = .ok (.string ⟨#[]⟩) w:=fun w=>by kernel_rfl
  refine QN ?_
  refine wp_region_held_drew (S:=(fun w'=>w'.rangeAt K 0 (Qd (ly:Int) ke st (fr:Int))∧Below w3 w3 w')) Zk ?_ (fun Yb=>?_)
  ·exact OU.o _ (YG _ _).drew
  refine YA 3 (h:=YA 4 (h:=?_))
  refine YA 0 (hy:=by intro wS QW;refine (Ux 81 (.tmp 4) ?_ K 0 ?_ (Qd (ly:Int) ke st (fr:Int)) _ QW.1 Tryz.underlying81 rfl Zk).trans ?_;all_goals rfl) (h:=?_)
  refine YA 5 (hy:=by intro wS QW;have Di:=HCV.o wS QW.2;(try dsimp only at QW);(try simp only [Z3.pt]);go_simp;try with_reducible rfl) (h:=?_)
  refine TR 1 (h:=fun K hK=>?_)
  go_simp
  refine CP.o.mono ?_
  rintro e wA ⟨rfl,lM⟩
  have Ds:=Zh ((YG w3.heap.size w3).drew.trans lM)
  clear lM
  exact Yt3
 have Od:=HAB.o h3
 have hL4:[UInt8.ofNat (Ss ly ke st),90,UInt8.ofNat (fr / 256),UInt8.ofNat (fr % 256)].length=4:=rfl
 have CP:=Zh (AZ ly fr ke st w3.drew Zo hfr6)
 generalize [UInt8.ofNat (Ss ly ke st),90,UInt8.ofNat (fr / 256),UInt8.ofNat (fr % 256)]=la at *
 clear hse HAB HL
 by_cases hq:x0 / 4 % 16≠0∨x1≠90
 ·have HX:Hid (X=(Ue,1)):=by show _=_;rw [HE.o,ZX Zo]
  have Xh:¬la=lb:=by rw [Od];omega
  have nq:((str la).toList == (str lb).toList)=false:=by rw [WT,ByteArray.toList_eq,ByteArray.toList_eq];exact Xh
  clear h3 HE Od hq Xh
  refine QN ?_
  refine wp_region_held_drew (S:=(fun w'=>w'.rangeAt K 0 (Qd (ly:Int) ke st (fr:Int))∧Below w3 w3 w')) Zk ?_ (fun Yb=>?_)
  ·exact OU.o _ (YG _ _).drew
  refine YA 3 (h:=YA 4 (h:=?_))
  refine YA 0 (hy:=by intro wS QW;refine (Ux 81 (.tmp 4) ?_ K 0 ?_ (Qd (ly:Int) ke st (fr:Int)) _ QW.1 Tryz.underlying81 rfl Zk).trans ?_;all_goals rfl) (h:=?_)
  refine YA 5 (hy:=by intro wS QW;have Di:=HCV.o wS QW.2;(try dsimp only at QW);(try simp only [Z3.pt]);go_simp;try with_reducible rfl) (h:=?_)
  refine TR 1 (h:=fun K hK=>?_)
  go_simp
  refine CP.o.mono ?_
  rintro e wA ⟨⟨pv,rfl,vH⟩,lM⟩
  have Ds:=Zh ((YG w3.heap.size w3).drew.trans lM)
  have cv2:=Hn (w:=wA) (v:=pv) (l:=la) (by show Yf _ _ _ _;rw [hL4];exact vH.r) (by rw [hL4];decide)
  clear lM vH
  exact Yt3
 ·have HX:Hid (X=(⟨(ly:Nat),ke,st,(fr:Nat)⟩,0)):=by show _=_;rw [HE.o,Z6 Zo]
  have hab2:la=lb:=Od.2 Zo
  subst hab2
  clear h3 HE Od hq
  refine QN ?_
  refine wp_region_held_drew (S:=(fun w'=>w'.rangeAt K 0 (Qd (ly:Int) ke st (fr:Int))∧Below w3 w3 w')) Zk ?_ (fun Yb=>?_)
  ·exact OU.o _ (YG _ _).drew
  refine YA 3 (h:=YA 4 (h:=?_))
  refine YA 0 (hy:=by intro wS QW;refine (Ux 81 (.tmp 4) ?_ K 0 ?_ (Qd (ly:Int) ke st (fr:Int)) _ QW.1 Tryz.underlying81 rfl Zk).trans ?_;all_goals rfl) (h:=?_)
  refine YA 5 (hy:=by intro wS QW;have Di:=HCV.o wS QW.2;(try dsimp only at QW);(try simp only [Z3.pt]);go_simp;try with_reducible rfl) (h:=?_)
  refine TR 1 (h:=fun K hK=>?_)
  go_simp
  refine CP.o.mono ?_
  rintro e wA ⟨⟨pv,rfl,vH⟩,lM⟩
  have Ds:=Zh ((YG w3.heap.size w3).drew.trans lM)
  have cv2:=Hn (w:=wA) (v:=pv) (l:=la) (by show Yf _ _ _ _;rw [hL4];exact vH.r) (by rw [hL4];decide)
  clear lM vH
  go_wp2_with fail
  refine hK.out _ _ ?_ (fun XX=>?_)
  ·exact OU.o _ Ds.o
  clear hK K
  try simp only [Z3.pt]
  refine TR 2 (h:=fun K hK=>?_)
  go_simp
  refine hK.out _ _ ?_ (fun Wo=>?_)
  ·exact OU.o _ Ds.o
  clear hK K
  try simp only [Z3.pt]
  refine YA 6 (h:=?_)
  refine YHE (h:=?_)
  refine Py ?_
  obtain ⟨UD,eY⟩:=Vj.o wA (Qd (ly:Int) ke st (fr:Int)) Ds.o
  have VD:=(Ds.o.block _ (ZQ HK.o)).trans HK.o
  go_wp2_with (first|(with_reducible refine Yp 81 (.tmp 4) rfl ?_;refine Zl VD Tryz.underlying81 ?_)|(with_reducible refine ZY 81 (.tmp 2) (.tmp 43) rfl ?_;refine Zs UD ?_))
  refine VR (v:= .tuple (Qn (Qd (ly:Int) ke st (fr:Int)) 0)) ?_ rfl ?_
  ·exact Vs (p:=2) (u:=3) Zr _ _ w.heap.size 81 (Qd (ly:Int) ke st (fr:Int)) (0,0) _ Zr (setRow_heap _ _ _ _ _ _ UD) Tryz.underlying81 rfl Zk
  rw [HX.o]
  exact ⟨rfl,eY⟩
end Go.Proofs.By
