/- Part of a proof. -/
import Derived.Test.YtpdjhlcbcomdkaaGreatDoorT18
set_option linter.unusedVariables false
set_option linter.unusedSimpArgs false
set_option maxRecDepth 100000
set_option maxHeartbeats 16000000
open Go Go.Q Go.Qr Go.Proofs.Tryz
namespace Go.Proofs.By
open Go.RowKit Go.Proofs.Heap
theorem Gx{n:Nat}(h:n<256):((UInt8.ofNat n).toNat:Int)=(n:Int):=by rw[UInt8.toNat_ofNat'];omega
theorem tB(n:Nat)(w:World)(hn:n<65536):Calls prog 147 #[.int .i64 2,.int .u64 (n:Int)] w fun e w'=>(∃v,e = .returned v∧Row w' 5 v 2 (Rx [UInt8.ofNat (n/256),UInt8.ofNat (n%256)]))∧Below w w w':=by
  have dH:∀w:World,(Instr.makeSlice 30 (.int .i64 2) (.int .i64 2)).run prog w = .ok (.slice (some ⟨w,0,none⟩) 2 2) (w.alloc (.cells (Qv 0 0) 5)):=fun w=>by kernel_rfl
  have yD:max (2:Int) 0=2:=by decide
  have hR:Hid (∀w':World,w'.heap[w.heap.size]?=some (.cells (Qv ((n/256:Nat):Int) ((n%256:Nat):Int)) 5 (0,0))→Row w' 5 (.slice (some ⟨w,0,none⟩) 2 2) 2 (Rx [UInt8.ofNat (n/256),UInt8.ofNat (n%256)])):=fun w' h=>by
    refine Row.Z4 (base:=0) (size:=1) ⟨rfl,WB ⟨w,2,_,rfl,TH _,h,by decide,by decide,rfl,?_⟩⟩;simp only[Rx,List.map_cons,List.map_nil,Gx (show n/256<256 by omega),Gx (show n%256<256 by omega)];rfl
  have a1:IntKind.u8.wrap ((n:Int)%256)=(n:Int)%256:=by rw[IntKind.wrap_u8];omega
  have a2:IntKind.u8.wrap ((n:Int)/256%256)=(n:Int)/256%256:=by rw[IntKind.wrap_u8];omega
  have hz:=Z9 w (.cells (Qv 0 0) 5);have Vk:Hid (Below w w (w.alloc (.cells (Qv 0 0) 5))):=Z' w _;go_enter func147,ntmps147;go_wp2_with fail
  go_loopw [1,6] (fun s1 s6 w'=>Below w w w'∧((s6 = .int .i64 1∧s1 = .int .u64 (n:Int)∧w'.heap[w.heap.size]?=some (.cells (Qv 0 0) 5 (0,0)))∨(s6 = .int .i64 0∧s1 = .int .u64 ((n:Int)/256)∧w'.heap[w.heap.size]?=some (.cells (Qv 0 ((n:Int)%256)) 5 (0,0)))∨(s6 = .int .i64 (-1)∧s1 = .int .u64 ((n:Int)/256/256)∧w'.heap[w.heap.size]?=some (.cells (Qv ((n:Int)/256%256) ((n:Int)%256)) 5 (0,0))))) (fun _ s6 _=>(intOf s6+1).toNat)
  case atStart=>exact⟨Vk.o,WO ⟨rfl,rfl,hz⟩⟩
  case round=>
    obtain⟨Xz,h⟩:=hrel;have Sv:=Zh Xz;clear Xz;rcases h with⟨rfl,rfl,hb⟩|⟨rfl,rfl,hb⟩|⟨rfl,rfl,hb⟩
    · have k1:=cell_of hb 1;have f1:=ZP hb 1;simp only[SN,Sy,R4]at k1;have Zb:=VH hb 1 (.int .u8 ((n:Int)%256));go_wp2;go_roundw
      case rel=>exact⟨((Fr.Z6 Pz Sv.o).setCell (p:=⟨w,1,none⟩) (WO (Zw _)) _).below,WB (WO ⟨rfl,rfl,Zb⟩)⟩
      case measure=>simp[intOf]
    · have k1:=cell_of hb 0;have f1:=ZP hb 0;simp only[SN,Sy,R4]at k1;have Zb:=VH hb 0 (.int .u8 ((n:Int)/256%256));go_wp2;go_roundw
      case rel=>exact⟨((Fr.Z6 Pz Sv.o).setCell (p:=⟨w,0,none⟩) (WO (Zw _)) _).below,WB (WB ⟨rfl,rfl,Zb⟩)⟩
      case measure=>simp[intOf]
    · have e1:((n/256:Nat):Int)=(n:Int)/256%256:=by omega
      have e2:((n%256:Nat):Int)=(n:Int)%256:=by omega
      have HRR:=Zh (hR.o wr (by rw[e1,e2];exact hb));clear hR;go_wp2;go_ret;exact⟨⟨_,rfl,HRR.o⟩,Sv.o⟩
theorem Hw(ly fr:Int)(ke st:Bool)(w:World)(h0:0≤ly):Calls prog 146 #[.agg (Qd ly ke st fr)] w fun e w'=>e = .returned (.bool (decide (ly≤2)))∧Below w w w':=by
  have d0:decide (0≤ly)=true:=Ww h0;go_enter func146,ntmps146;go_wp2;go_ret;exact⟨rfl,Z' w _⟩
def Ry(ly:Nat)(ke st:Bool):Nat:=ly+(if ke then 128 else 0)+(if st then 64 else 0)
theorem qO(w:World)(e:TypeId)(size n m base:Nat)(xs:List Value)(hl:xs.length=n*size)(hn:n≤maxLen)(hm:m=w.heap.size)(hB:base≤m):(w.alloc (.cells xs.toArray e)).ownsRow base e size (.slice (some ⟨m,0,none⟩) n n) n xs:=by
  exact Yt27
theorem xH(ly fr:Nat)(ke st:Bool)(w:World)(hl:ly≤2)(hf:fr<65536):Calls prog 119 #[.agg (Qd (ly:Int) ke st (fr:Int))] w fun e w'=>(∃v,e = .returned v∧Row w' 5 v 4 (Rx [UInt8.ofNat (Ry ly ke st),90,UInt8.ofNat (fr/256),UInt8.ofNat (fr%256)]))∧Below w w w':=by
  have CM:=Zh (fun w'=>Hw (ly:Int) (fr:Int) ke st w' Zo);have CB:=Zh (fun w'=>tB fr w' hf);have dl:decide ((ly:Int)≤2)=true:=Ww Zo;have a9:IntKind.u64.wrap (fr:Int)=(fr:Int):=by rw[IntKind.wrap_u64];omega
  have Vk:Hid (Below w w (w.alloc (.cells (Qd (ly:Int) ke st (fr:Int)) 81))):=Z' w _;have hz:=Z9 w (.cells (Qd (ly:Int) ke st (fr:Int)) 81);obtain⟨x,hx⟩:∃x:Int,x=((Ry ly ke st:Nat):Int):=⟨_,rfl⟩
  have HY:Hid (Rx [UInt8.ofNat (Ry ly ke st),90,UInt8.ofNat (fr/256),UInt8.ofNat (fr%256)]=[.int .u8 x,.int .u8 90]++Rx [UInt8.ofNat (fr/256),UInt8.ofNat (fr%256)]):=by
    show _=_;have hD2:Ry ly ke st<256:=by unfold Ry;split <;> split <;> omega
    simp only[Rx,List.map_cons,List.map_nil,Gx hD2,hx];rfl
  rw[HY.o];clear HY;cases ke <;> cases st
  case' false.false=>
    have a0:IntKind.u8.wrap (ly:Int)=x:=by rw[IntKind.wrap_u8,hx];simp[Ry];omega
  case' false.true=>
    have a0:IntKind.u8.wrap (ly:Int)=(ly:Int):=by rw[IntKind.wrap_u8];omega
    have a1:IntKind.u8.wrap ((ly:Int)+64)=x:=by rw[IntKind.wrap_u8,hx];simp[Ry];omega
  case' true.false=>
    have a0:IntKind.u8.wrap (ly:Int)=(ly:Int):=by rw[IntKind.wrap_u8];omega
    have a1:IntKind.u8.wrap ((ly:Int)+128)=x:=by rw[IntKind.wrap_u8,hx];simp[Ry];omega
  case' true.true=>
    have a0:IntKind.u8.wrap (ly:Int)=(ly:Int):=by rw[IntKind.wrap_u8];omega
    have a1:IntKind.u8.wrap ((ly:Int)+128)=(ly:Int)+128:=by rw[IntKind.wrap_u8];omega
    have a2:IntKind.u8.wrap ((ly:Int)+128+64)=x:=by rw[IntKind.wrap_u8,hx];simp[Ry];omega
  all_goals
    clear hx hl;go_enter func119,ntmps119;go_upto_region 3 with(go_at_call 146;refine(CM.o _).mono ?_;rintro e w2 ⟨rfl,Zb⟩;have Yg:=Zh (Tr Vk Zb);have TY:=(Zb.block _ (ZX hz)).trans hz;clear Zb)
    have q0:w2.cell? ⟨w,0,none⟩=some (.int .i64 (ly:Int)):=Zc TY 0 rfl;have q1:=cell_of TY 1;have q2:=cell_of TY 2;have q3:w2.cell? ⟨w,3,none⟩=some (.int .u16 (fr:Int)):=Zc TY 3 rfl;simp only[SN,Sy,R4]at q1 q2;have q4:=((Z' w2 (.cells (Qv x 90) 5)).cell (p:=⟨w,3,none⟩) (ZX TY)).trans q3;have LX:Hid ((w2.alloc (.cells (Qv x 90) 5)).ownsRow w 5 1 (.slice (some ⟨w2,0,none⟩) 2 2) 2 (Qv x 90)):=qO w2 5 1 2 w2 w.heap.size (Qv x 90) rfl Zd rfl Yg.o.size;have WU:Hid (Below w w (w2.alloc (.cells (Qv x 90) 5))):=ZF Yg.o (Zw _) _
    have HN9:Hid (∀u∈Rx [UInt8.ofNat (fr/256),UInt8.ofNat (fr%256)],u.oneCell'=true):=fun u hu=>by
      simp only[Rx,List.map_cons,List.map_nil,J9,List.mem_nil_iff,or_false]at hu;rcases hu with rfl|rfl <;> rfl
    clear hz TY;go_wp2_with (first|(go_at_call 147;refine(CB.o _).mono ?_;rintro e w4 ⟨⟨v4,rfl,hr⟩,TW⟩;have HR4:=Zh hr;have Va:=Zh (Tr WU TW);have HOW4:=Zh (Yv LX.o TW);clear hr TW)|(at_builtin;refine YO rfl (.tmp 19) (.tmp 23) 30 rfl w VG (.slice (some ⟨w2,0,none⟩) 2 2) 2 (Qv x 90) rfl HOW4.o v4 2 (Rx [UInt8.ofNat (fr/256),UInt8.ofNat (fr%256)]) rfl HR4.o rfl HN9.o Zd Zd Va.o.size (fun v5 w5 bK eB=>?_)))
    go_ret;exact⟨⟨_,rfl,Row.Z4 bK.o⟩,((Fr.Z6 Pz Va.o).grown eB.o Va.o.size (Rm.YL HOW4.o)).below⟩
theorem Az(ly fr:Int)(ke st:Bool)(w:World)(h2:2<ly):Calls prog 119 #[.agg (Qd ly ke st fr)] w fun e w'=>e = .returned (.slice none 0 0)∧Below w w w':=by
  have CM:=Zh (fun w'=>Hw ly fr ke st w' Zo);have Vk:Hid (Below w w (w.alloc (.cells (Qd ly ke st fr) 81))):=Z' w _;have dl:decide (ly≤2)=false:=Wz Zo;go_enter func119,ntmps119;go_wp2_with (go_at_call 146;refine(CM.o _).mono ?_;rintro e w2 ⟨rfl,Zb⟩;have Yg:=Zh (Tr Vk Zb);clear Zb)
  go_ret;exact⟨rfl,Yg.o⟩
open Go.WideShapes Go.ChangeShapes Go.Proofs.Mem Go.Deep
open Go.Proofs.Rm (OpV XJ YN VU DT MC Ka seven Nk Op)
structure WY(w:World)(v:Value)(L:List WE):Prop where
 row:XM w v L.length (L.flatMap fun y=>XJ y.x)
 each:∀y∈L,XM w (.slice y.x.sa y.x.o.ZK.length y.x.sc) y.x.o.ZK.length (YN y.x.o.ZK)∧X5 w (.slice y.x.ba y.x.bl y.x.bc) y.b∧y.x.o.name.length<9223372036854775807
theorem WY.below{w w':World}{v:Value}{L:List WE}(h:WY w v L)(hb:Below w w w'):WY w' v L:=⟨h.row.below hb,fun y hy=>⟨(h.each y hy).1.below hb,(h.each y hy).2.1.below hb,(h.each y hy).2.2⟩⟩
section
variable {H:Type} {enc:TypeId×Value→H} {W:World} {base:Nat} {sp:Nat→Bool} {held:Bool}
theorem nL{z:Int}(h:(Lit.int .u8 z).wf=true):0≤z∧z<256:=by
 have h:=(UW _ _).mp h;have h1:=of_decide_eq_true h.1;have h2:=of_decide_eq_true h.2;have e1:IntKind.min .u8=0:=by decide
 have e2:IntKind.max .u8=255:=by decide
 omega
theorem nH{fuel:Nat}{v:Value}{x:DataW H×List MemPlace}(h:DataW.trod enc prog W base sp held fuel 30 [v]=some x):∃(l:List UInt8) (a:Option Addr) (n c:Nat),v = .slice a n c∧X5 W (.slice a n c) l:=by
 rcases open_slice1 underlying30 X_ h with⟨hc,_⟩|⟨a,len,cap,m,n,V,D,Pl,TN,hb,hl,hm,gW,_,hx⟩
 ·exact⟨[],none,0,0,by simpa using hc,XM.nil _⟩
 ·have Aa:len≤m:=by rw[gW];split <;> omega
  have hv:v = .slice (some a) len cap:=by simpa using TN
  have key:∀i,i<len→∃z:UInt8,W.cell? (a.add i)=some (.int .u8 (z.toNat:Int))∧V i = .int .u8 (z.toNat:Int):=by
   intro i hi;obtain⟨h1,h2⟩:=hx i Zo;obtain⟨z,hz,_,hwf⟩:=DataW.trod_int underlying5 h2;obtain⟨r0,r1⟩:=nL hwf;have hz:V i = .int .u8 z:=by simpa using hz
   have e:((UInt8.ofNat z.toNat).toNat:Int)=z:=by
    rw[UInt8.toNat_ofNat'];omega
   exact⟨UInt8.ofNat z.toNat,by rw[h1,hz,e],by rw[hz,e]⟩
  let l:List UInt8:=(List.range len).map fun i=>match V i with | .int _ z=>UInt8.ofNat z.toNat|_=>0
  have uH:l.length=len:=by simp[l]
  refine⟨l,some a,len,cap,hv,some a,cap,by rw[uH],by rw[uH];exact hl,hm,(fun h=>by cases h),?_⟩;by_cases h0:len=0
  ·exact WO (AH (by rw[Xg,uH];exact h0))
  ·obtain⟨z0,wO,_⟩:=key 0 Zo;have mA:W.cell? a=some (.int .u8 (z0.toNat:Int)):=by unfold Addr.add at wO;simpa using wO
   have ha:=MC mA;refine WB ⟨a.block,a.off,by rw[←ha],World.block_lt_of_cell? W a mA,fun j hj=>?_⟩;rw[Xg,uH]at hj;obtain⟨z,hz,hV⟩:=key j hj;rw[←Ka ha,hz]
   have hlj:l[j]?=some z:=by
    have e:UInt8.ofNat z.toNat=z:=by simp
    simp[l,hj,hV]
   simp only[Rx,List.getElem?_map,hlj,Option.map_some]
theorem nG{fuel:Nat}{cs:List Value}{x:DataW H×List MemPlace}(h:DataW.trod enc prog W base sp held fuel 32 cs=some x) :
  ∃y:WE,cs=XJ y.x∧(XM W (.slice y.x.sa y.x.o.ZK.length y.x.sc) y.x.o.ZK.length (YN y.x.o.ZK)∧X5 W (.slice y.x.ba y.x.bl y.x.bc) y.b)∧y.x.o.name.length∈x.1.weights prog 32:=by
 obtain⟨xs,n,_,qw,hlen,aO,hf⟩:=DataW.trod_struct underlying32 h;have hC:prog.cellsOf 32=7:=by kernel_rfl
 have k1:prog.cellsOf 3=1:=by kernel_rfl
 have k2:prog.cellsOf 9=1:=by kernel_rfl
 have k3:prog.cellsOf 29=1:=by kernel_rfl
 have k4:prog.cellsOf 30=1:=by kernel_rfl
 rw[hC]at hlen;obtain⟨c0,c1,c2,c3,c4,c5,c6,rfl⟩:∃c0 c1 c2 c3 c4 c5 c6,cs=[c0,c1,c2,c3,c4,c5,c6]:=seven hlen;clear h hC;have hx:∀j,j<7→∃y,xs[j]?=some y:=fun j hj=>⟨xs[j]'(by rw[aO];exact hj),Ve _⟩
 obtain⟨y0,e0⟩:=hx 0 Zo;obtain⟨y1,e1⟩:=hx 1 Zo;obtain⟨y2,e2⟩:=hx 2 Zo;obtain⟨y3,e3⟩:=hx 3 Zo;obtain⟨y4,e4⟩:=hx 4 Zo;obtain⟨y5,e5⟩:=hx 5 Zo;obtain⟨y6,e6⟩:=hx 6 Zo;have h0:DataW.trod enc prog W base sp held n 3 (([c0,c1,c2,c3,c4,c5,c6].drop 0).take (prog.cellsOf 3))=some y0:=(hf 0 _ rfl).trans e0;have h1:DataW.trod enc prog W base sp held n 3 (([c0,c1,c2,c3,c4,c5,c6].drop 1).take (prog.cellsOf 3))=some y1:=(hf 1 _ rfl).trans e1;have h2:DataW.trod enc prog W base sp held n 3 (([c0,c1,c2,c3,c4,c5,c6].drop 2).take (prog.cellsOf 3))=some y2:=(hf 2 _ rfl).trans e2;have h3:DataW.trod enc prog W base sp held n 3 (([c0,c1,c2,c3,c4,c5,c6].drop 3).take (prog.cellsOf 3))=some y3:=(hf 3 _ rfl).trans e3;have h4:DataW.trod enc prog W base sp held n 9 (([c0,c1,c2,c3,c4,c5,c6].drop 4).take (prog.cellsOf 9))=some y4:=(hf 4 _ rfl).trans e4;have h5:DataW.trod enc prog W base sp held n 29 (([c0,c1,c2,c3,c4,c5,c6].drop 5).take (prog.cellsOf 29))=some y5:=(hf 5 _ rfl).trans e5;have h6:DataW.trod enc prog W base sp held n 30 (([c0,c1,c2,c3,c4,c5,c6].drop 6).take (prog.cellsOf 30))=some y6:=(hf 6 _ rfl).trans e6;rw[k1]at h0 h1 h2 h3;rw[k2]at h4;rw[k3]at h5;rw[k4]at h6;obtain⟨z0,g0,_⟩:=DataW.trod_int underlying3 h0;obtain⟨z1,g1,_⟩:=DataW.trod_int underlying3 h1
 obtain⟨z2,g2,_⟩:=DataW.trod_int underlying3 h2;obtain⟨z3,g3,_⟩:=DataW.trod_int underlying3 h3;obtain⟨s4,g4,gy4,hs4⟩:=DataW.trod_string underlying9 h4;obtain⟨l5,a5,n5,g5,hr5⟩:=DT (v:=c5) h5;obtain⟨b6,a6,l6,n6,g6,hr6⟩:=nH (v:=c6) h6;have g0:c0 = .int .i64 z0:=by simpa using g0
 have g1:c1 = .int .i64 z1:=by simpa using g1
 have g2:c2 = .int .i64 z2:=by simpa using g2
 have g3:c3 = .int .i64 z3:=by simpa using g3
 have g4:c4 = .string s4:=by simpa using g4
 refine⟨⟨⟨⟨z0,z1,z2,z3,s4.data.toList,l5⟩,a5,n5,a6,l6,n6⟩,b6⟩,?_,⟨hr5,hr6⟩,?_⟩
 ·rw[g0,g1,g2,g3,g4,g5,g6];simp only[XJ,bn]
 ·exact Yx97
theorem qK{t:TypeId}{v:Value}{d:DataW H}{ps:List MemPlace}(ht:prog.underlying t=some (.slice 32))(LG:v.cells=#[v])(h:DataW.Trod enc prog W base sp held t v d ps)(hz:∀n∈d.weights prog t,n≤reachBytes):∃l,WY W v l:=by
 obtain⟨fuel,h⟩:=h;rw[LG]at h;have hC:prog.cellsOf 32=7:=by kernel_rfl
 rcases open_slice ht h with⟨hc,_⟩|⟨a,len,cap,m,n,D,Pl,TN,hb,hl,hm,gW,hdx,hx⟩
 ·have:v = .slice none 0 0:=by simpa using hc
  subst this;exact⟨[],XM.nil _,fun x hx=>by simp at hx⟩
 ·have Aa:len≤m:=by rw[gW];split <;> omega
  have hv:v = .slice (some a) len cap:=by simpa using TN
  subst hv
  have key:∀i,∃y:WE,i<len→(∀j,j<7→W.cell? ((a.add (i*7)).add j)=(XJ y.x)[j]?)∧(XM W (.slice y.x.sa y.x.o.ZK.length y.x.sc) y.x.o.ZK.length (YN y.x.o.ZK)∧X5 W (.slice y.x.ba y.x.bl y.x.bc) y.b∧y.x.o.name.length<9223372036854775807):=by
   intro i;by_cases hi:i<len
   ·obtain⟨cs',h1,h2⟩:=hx i Zo;rw[hC]at h1;obtain⟨_,hcl',V7⟩:=World.cells?_some h1;obtain⟨y,hy,⟨hr,Mz⟩,hn⟩:=nG h2
    have ai:y.x.o.name.length<9223372036854775807:=by
     have hd:d = .slice ((List.range len).map D) ((List.range (m-len)).map fun j=>D (len+j)):=by injection hdx
     have:=hz y.x.o.name.length (by
      rw[hd];unfold DataW.weights;rw[ht]
      refine List.mem_cons_of_mem _ (EN.2 (WO (Nk (wI.2 ⟨i,by simpa using hi,rfl⟩) _ hn))))
     have:=Nat.lt_of_le_of_lt this reachBytes_lt;omega
    refine⟨y,fun _=>⟨fun j hj=>?_,hr,Mz,ai⟩⟩;have:=V7 j hj;rw[←hy,this]
   ·exact⟨⟨⟨⟨0,0,0,0,[],[]⟩,none,0,none,0,0⟩,[]⟩,fun h=>absurd h hi⟩
  obtain⟨Y,hY⟩:=Classical.axiomOfChoice key
  let l:List WE:=(List.range len).map Y
  have uH:l.length=len:=by simp[l]
  refine⟨l,⟨some a,cap,by rw[uH],by rw[uH];exact hl,hm,(fun h=>by cases h),?_⟩,?_⟩
  ·by_cases h0:len=0
   ·exact WO (by rw[AH (uH.trans h0)];rfl)
   ·have hz:=(hY 0 Zo).1 0 Zo;have wO:W.cell? a=some (.int .i64 (Y 0).x.o.kind):=by simpa[Addr.add,XJ]using hz
    have ha:=MC wO;refine WB ⟨a.block,a.off,by rw[←ha],World.block_lt_of_cell? W a wO,fun j hj=>?_⟩;have wK:(l.flatMap fun y=>XJ y.x).length=len*7:=by rw[XN (fun y:WE=>XJ y.x) 7 (fun _=>rfl),uH]
    rw[wK]at hj;have hi:j/7<len:=by omega
    have hli:l[j/7]?=some (Y (j/7)):=by simp[l,hi]
    have:=Mu (fun y:WE=>XJ y.x) 7 (fun _=>rfl) l (j/7) (j%7) _ hli Zo;exact Yx112
  ·intro x hx;obtain⟨i,hi,rfl⟩:=wI.1 hx;exact(hY i (by simpa using hi)).2
end
end Go.Proofs.By
namespace Go.Proofs.By
open Go.RowKit Go.Proofs.Heap Go.Proofs
open Go.Proofs.Rm (Tk Uw YD YF Room ZR Inv Wn Z7 Xy Vx X4 YL Yw below_drewN XJ YN)
open Go.Proofs.ND (Xu)
open Go.Proofs.Mem
theorem uo:Elem prog 22 32 7 96:=⟨underlying22,⟨.agg IV,by kernel_rfl,rfl⟩,by decide⟩
theorem Fu{α:Type}(f:α→List Value)(k:Nat)(hk:∀x,(f x).length=k):∀(l:List α) (m:Nat),(l.flatMap f).take (m*k)=(l.take m).flatMap f
 | [],m=>by simp
 | x :: l,0=>by simp
 | x :: l,m+1=>by
  have h:=hk x;rw[List.flatMap_cons,List.take_succ_cons,List.flatMap_cons,Nat.succ_mul,List.take_append,h,EM Zo,show m*k+k-k=m*k by omega,Fu f k hk l m]
theorem WY.take{w:World}{a:Option Addr}{c:Nat}{L:List WE}(h:WY w (.slice a L.length c) L){a':Option Addr}{K:Nat}(hK:K≤L.length)
  (hr:∀w xs,K≤L.length→xs.length=L.length*7→XM w (.slice a L.length c) L.length xs→XM w (.slice a' K c) K (xs.take (K*7))):WY w (.slice a' K c) (L.take K):=by
 have hl:(L.take K).length=K:=by rw[SY];omega
 refine⟨?_,fun y hy=>h.each y (List.mem_of_mem_take hy)⟩;rw[hl];have:=hr w _ hK (XN (fun y:WE=>XJ y.x) 7 (fun _=>rfl) L) h.row
 rwa[Fu (fun y:WE=>XJ y.x) 7 (fun _=>rfl)]at this
theorem WY.form{w:World}{v:Value}{L:List WE}(h:WY w v L):∃a c,v = .slice a L.length c∧L.length≤c∧c≤maxLen:=by
 obtain⟨a,c,h1,h2,h3,_⟩:=h.row;exact⟨a,c,h1,h2,h3⟩
theorem d_(v:Value)(L:List WE)(w:World)(h:WY w v L):Calls prog 84 #[v] w fun e w'=>(∃v',e = .returned v'∧WY w' v' (L.take 256))∧w=w':=by
 obtain⟨va,vc,rfl,hvc,yD⟩:=h.form;obtain⟨K,hKd⟩:∃K,K=min L.length 256:=⟨_,rfl⟩;have hK1:K≤L.length:=by omega
 have hKm:min (L.length:Int) 256=(K:Int):=by omega
 obtain⟨vs,Us,-,FH⟩:=Sk (P:=prog) uo va L.length vc K Zo
 have HO:Hid (WY w (.slice vs K vc) (L.take 256)):=by
  have h2:=h.take hK1 FH
  have e:L.take K=L.take 256:=by
   rcases Nat.le_total L.length 256 with h3|h3
   ·rw[hKd,Nat.min_eq_left h3,n9,EM h3]
   ·rw[hKd,Nat.min_eq_right h3]
  rwa[e]at h2
 clear h FH hKd;go_enter func84,ntmps84;go_wp2;go_ret;exact⟨⟨_,rfl,HO.o⟩,rfl⟩
def wq(w:World)(S:Nat→Prop):Prop:=∀j,S j→∃c t f,w.heap[j]?=some (.cells c t f)∧(t=116∨t=35∨t=97∨t=59)
theorem wq.no{w:World}{S:Nat→Prop}(h:wq w S){j:Nat}{c:Array Value}{e:TypeId}{f:Nat×Nat}(hj:w.heap[j]?=some (.cells c e f))(he:e≠116∧e≠35∧e≠97∧e≠59):¬S j:=fun hs=>by
 obtain⟨c',t,f',h1,h2⟩:=h j hs;rw[hj]at h1;injection h1 with h1
 injection h1 with _ h1
 subst h1;rcases h2 with r|r|r|r
 ·exact he.1 r
 ·exact he.2.1 r
 ·exact he.2.2.1 r
 ·exact he.2.2.2 r
theorem wq.ne{w:World}{S:Nat→Prop}(h:wq w S){e:TypeId}(he:e≠116∧e≠35∧e≠97∧e≠59):∀j c fr,S j→w.heap[j]?≠some (.cells c e fr):=fun _ _ _ hs hj=>h.no hj he hs
structure RO(w:World)(g b K:Nat)(R:Room)(ep:Int)(TC:Array Value)(tv:Value)(ts:List YF)(x:TK):Prop where
 RJ:X8 w g b R ep
 turns:YD w tv ts
 pk:Vy w x.p x.cv x.ev x.pv
 tk:w.heap[K]?=some (.cells TC 100 (0,0))
section
variable {w w':World} {g b K:Nat} {R:Room} {ep:Int} {TC:Array Value} {tv:Value} {ts:List YF} {x:TK}
theorem RO.below(h:RO w g b K R ep TC tv ts x)(hb:Below w w w'):RO w' g b K R ep TC tv ts x:=
 ⟨h.RJ.below hb,Row.below h.turns hb,h.pk.below hb,(hb.block _ (ZX h.tk)).trans h.tk⟩
theorem X8.far(h:X8 w g b R ep){S:Nat→Prop}(hf:Fr w S w w')(hS:wq w S):X8 w' g b R ep:=by
 obtain⟨c,hc,_⟩:=h.room.cells;exact⟨(hf.block g (ZX h.Y8) (hS.no h.Y8 Zd)).trans h.Y8,h.room.fr hf (Zw _) (hS.no hc Zd) (hS.ne Zd)⟩
theorem RO.far(h:RO w g b K R ep TC tv ts x){S:Nat→Prop}(hf:Fr w S w w')(hS:wq w S):RO w' g b K R ep TC tv ts x:=
 ⟨h.RJ.far hf hS,Row.fr h.turns hf (Zw _) (hS.ne Zd),h.pk.wJ hf (hS.ne Zd) (hS.ne Zd),(hf.block _ (ZX h.tk) (hS.no h.tk Zd)).trans h.tk⟩
end
theorem X8.apartB{w:World}{g b:Nat}{R:Room}{ep:Int}(h:X8 w g b R ep):∀j,(j=b∨j=g)→∃c t f,w.heap[j]?=some (.cells c t f)∧t≠116∧t≠35∧t≠97∧t≠59∧t≠66∧t≠5:=by
 rintro j (rfl|rfl)
 ·obtain⟨c,hc,_,_⟩:=h.room.cells;exact⟨c,_,_,hc,by decide,by decide,by decide,by decide,by decide,by decide⟩
 ·exact⟨_,_,_,h.Y8,by decide,by decide,by decide,by decide,by decide,by decide⟩
theorem Xq{P:Program}{w:World}{op:Oper}{a:Act}(ty:TypeId)(x:Operand)(ho:op.op = .load ty x)(b o:Nat)(hx:a.eval x = .pointer (some ⟨b,o,none⟩))(cs:List Value)(d:TypeDesc)(hc:w.rangeAt b o cs)
  (hu:P.underlying ty=some d) (hd:d.isRow=true) (hi:(P.info? ty).map (·.size)=some cs.length):(execOp a.eval op).run P w = .ok (.value (.agg cs.toArray)) w:=by
 unfold execOp;simp only[ho,hx,Instr.loadAt,Instr.sureAddr,Sem.run_bind,Sem.run_pure,Result.andThen_ok,run_loadVar_mid w b o ty cs d hc hu hd hi]
theorem GJ(x:EJ):∀u∈VE x,u.oneCell'=true:=by
 intro u hu;simp only[VE,J9,List.mem_nil_iff,or_false]at hu;rcases hu with rfl|rfl|rfl|rfl <;> rfl
structure RS(w w':World)(k g b:Nat)(ov:Value)(L:List WE)(n:Int)(j:Nat)(av mv lv:Value)(M:List TK)(R:Room)(ep:Int):Prop where
 Zf:Below w w w'
 book:WH w w' k #[ov,av,mv,lv] av (XZ L j) mv M lv (Zu L n j)
 aX:M.map (fun x=>(x.p,x.d))=Od L j
 RJ:X8 w' g b R ep
 inv:Inv R
 vM:Wn R
 bare:R.bare=(Yd L j).1
 eps:ep=(Yd L j).2
 kg:w.heap.size≤k∧w.heap.size≤g∧w.heap.size≤b
theorem Dm{p:J4}{d:EK}{ca ea pa:Option Addr}{cn cc en ec pn pc:Nat}:∀u∈[(⟨p,d,.slice ca cn cc,.slice ea en ec,.slice pa pn pc⟩:TK)].flatMap Xm,u.oneCell'=true:=by
 intro u hu;have hu:u∈VJ p d (.slice ca cn cc) (.slice ea en ec) (.slice pa pn pc):=by simpa[Xm]using hu
 simp only[VJ,J9,List.mem_nil_iff,or_false]at hu;rcases hu with rfl|rfl|rfl|rfl|rfl|rfl|rfl|rfl|rfl|rfl|rfl|rfl|rfl|rfl|rfl <;> rfl
theorem TI{α:Type}(f:α→List Value)(k:Nat)(hk:∀x,(f x).length=k){w:World}{e:TypeId}{a:Option Addr}{n c:Nat}{l:List α}(h:Row w e (.slice a n c) n (l.flatMap f))(hl:0<l.length*k):∃g off,a=some ⟨g,off,none⟩∧∀(i:Nat) (x:α),l[i]?=some x→∀j,j<k→w.cell? ⟨g,off+i*k+j,none⟩=(f x)[j]?:=by
 have wK:=XN f k hk l;obtain⟨g,off,cap,h1,h2,h3,h4,h5⟩:=Row.open h (by rw[wK];exact hl);injection h1 with e1 _ _
 refine⟨g,off,e1,fun i x hx j hj=>?_⟩;have hi:i<l.length:=(List.getElem?_eq_some_iff.1 hx).1
 have OT:i*k+j<l.length*k:=by
  have h6:(i+1)*k≤l.length*k:=Nat.mul_le_mul_right _ hi;rw[Nat.succ_mul]at h6;omega
 rw[Nat.add_assoc,h5 (i*k+j) (by rw[wK];exact OT)];exact Mu f k hk l i j x hx hj
theorem J5(v:Value)(L:List WE)(w:World)(hT:Xu w)(h:WY w v L)(hL:L.length≤256) :
  Calls prog 53 #[v] w fun e w'=>(∃k g b ov av mv lv M R ep,e = .returned (.pointer (some ⟨k,0,none⟩))∧WY w' ov L∧RS w w' k g b ov L L.length L.length av mv lv M R ep):=by
 have CC:Hid (Calls prog 84 #[v] w fun e w'=>(∃v',e = .returned v'∧WY w' v' L)∧w=w'):=by
  have h2:=d_ v L w h
  rwa[EM hL]at h2
 have HT:Hid (∀w',Below w w w'→Xu w'):=fun w' h=>Utf8Tabs_below hT h
 have CN:=Zh wR;clear hT h;go_enter func53,ntmps53;go_wp2_with (first|(go_at_call 84;refine CC.o.mono ?_;rintro e w1 ⟨⟨v',rfl,ho⟩,rfl⟩;obtain⟨va,vc,hv,hvc,yD⟩:=WY.form ho;subst hv;have HO:=Zh ho;clear ho)|(go_at_call 40;refine(CN.o _).mono ?_;rintro e w2 ⟨⟨g,b,rfl,hd,hg,hb⟩,Zb⟩;have iQ:=(Zb.block w AB).trans (Z9 w (.cells #[.slice va L.length vc,.slice none 0 0,.slice none 0 0,.slice none 0 0] 116));have k0:=cell_of iQ 0;simp only[SN,Sy]at k0;have HD:=Zh hd;have Yg:Hid (Below w w w2):=(Z' w _).trans (Zb.mono j5);have HG:Hid (w.heap.size≤g):=PX j5 hg;have RZ:Hid (w.heap.size≤b):=PX j5 hb;clear hd Zb hg hb))
 have E3:Hid (RS w w2 w g b (.slice va L.length vc) L L.length 0 (.slice none 0 0) (.slice none 0 0) (.slice none 0 0) [] Rm.empty 0):=
  ⟨Yg.o,⟨iQ,TV _ _ _ _,TV _ _ _ _,fun _ h=>(by cases h),TV _ _ _ _⟩,rfl,HD.o,Tk,Uw,rfl,rfl,⟨Zw _,HG.o,RZ.o⟩⟩
 clear iQ k0 CC CN HD Yg;go_loopw [20] (fun s20 w'=>∃(j:Nat) (av mv lv:Value) (M:List TK) (R:Room) (ep:Int),j≤L.length∧s20 = .int .i64 (j:Int)∧RS w w' w g b (.slice va L.length vc) L L.length j av mv lv M R ep) (fun s20 _=>L.length-(intOf s20).toNat)
 case atStart=>exact⟨0,_,_,_,_,_,_,Zo,rfl,E3.o⟩
 case round=>
  obtain⟨j,av,mv,lv,M,R,ep,hj,rfl,TP⟩:=hrel;have Av:=Zh TP;clear E3;by_cases RN:j<L.length
  ·have hOr:=HO.o.below TP.Zf;obtain⟨g',off',cap',e1,-,-,-,V7⟩:=Rm.K4 (fun y:WE=>XJ y.x) 7 (fun _=>rfl) Zo hOr.row Zo;cases e1;have hy:L[j]?=some L[j]:=Ve RN;have V7:=V7 j _ hy;have gL:=hOr.each L[j] (OC RN);have Ax:=Zh (fun sv=>zy hy TP.bare TP.eps sv);have hbd:=JL L j;rw[←TP.eps]at hbd;generalize L[j]=y at *
   obtain⟨⟨⟨kd,p,s,q,nm,ss⟩,sa,sc,ba,bl,bc⟩,bb⟩:=y;dsimp only at gL Ax;obtain⟨L9,pZ,UT⟩:=gL;have HA1:=Zh (H7 L j);have iJ:=Zh (yU L j);have E0:Hid (Zu L L.length (j+1)=Xd L.length j (Zu L L.length j) (Z5 L j).turns):=rfl;have HTL:=Zh (Ng L j);have HLL:=Zh (Sd L L.length j)
   have tI:Hid (M.length=j):=by
    show _=_;have h1:=congrArg List.length TP.aX
    rwa[Tx,FZ]at h1
   generalize Z5 L j=T at *
   have NA:wr.rangeAt g' (off'+j*7) (Qa kd p s q (str nm) sa ss.length sc ba bl bc):=fun m v hm=>(V7 m j4).trans hm
   have Cy:(j:Int)<(L.length:Int):=P6.2 RN;have hz:=Z9 wr (.cells IV 32);have SQ:=setRow_heap _ _ _ (Qa kd p s q (str nm) sa ss.length sc ba bl bc) _ _ hz;have WU:Hid (Below wr wr ((wr.alloc (.cells IV 32)).setRow wr (Qa kd p s q (str nm) sa ss.length sc ba bl bc))):=Z0 (Z' wr _) (Zw _) _
   have CT:Hid (Calls prog 44 (Qi (some ⟨g,0,none⟩) (Qa kd p s q (str nm) sa ss.length sc ba bl bc)) ((wr.alloc (.cells IV 32)).setRow wr (Qa kd p s q (str nm) sa ss.length sc ba bl bc)) (Fa g b R ep ⟨kd,p,s,q,nm,ss⟩ bb ((wr.alloc (.cells IV 32)).setRow wr (Qa kd p s q (str nm) sa ss.length sc ba bl bc)))):=
    jZ g b R ep kd p s q nm ss sa ba sc bl bc bb _ (TP.RJ.below WU.o) TP.inv (Utf8Tabs_below (HT.o _ TP.Zf) WU.o) hbd.1 Zo UT (L9.below WU.o) (fun hk w1 iX=>AV g b R ep kd p s q (str nm) sa ba ss.length sc bl bc bb w1 ((TP.RJ.below WU.o).below iX) TP.inv TP.vM hbd.1 Zo ((XM.below pZ WU.o).below iX))
   have HBK3:=Zh (TP.book.below WU.o);have wW:Hid (Below w w ((wr.alloc (.cells IV 32)).setRow wr (Qa kd p s q (str nm) sa ss.length sc ba bl bc))):=TP.Zf.trans (WU.o.mono TP.Zf.size);have HD3:=Zh (TP.RJ.below WU.o);have HTO:=Zh (BH TP.inv TP.vM ep ⟨kd,p,s,q,nm,ss⟩ bb);clear TP V7 hOr L9 pZ;go_upto_region 6 with(first|(with_reducible refine Zm NA underlying32 ?_)|(with_reducible refine Zs (cells:=(Qa kd p s q (str nm) sa ss.length sc ba bl bc)) hz ?_))
   clear hz NA;generalize((wr.alloc (.cells IV 32)).setRow wr (Qa kd p s q (str nm) sa ss.length sc ba bl bc))=w3 at *
   go_upto_region 7 with(first|(with_reducible refine Zl SQ underlying32 ?_)|(go_at_call 44;refine CT.o.mono ?_;rintro e w4 ⟨sv,⟨cs,rfl,Pp⟩,gK,dx⟩;obtain⟨st1,st2,st3⟩:=Ax.o sv;obtain⟨ok1,ok2,-⟩:=HTO.o sv;rw[st1]at Pp;have HD4:=Zh gK;have nS:=Zh dx;have HOK1:=Zh ok1;have xj:=Zh ok2;have eU:=Zh st2;have oX:=Zh st3;obtain⟨cv,ev,pv,iv,tv,rfl,ay,Pt,SX⟩:=Pp.ex;obtain⟨⟨ca,cc,Hi⟩,⟨ea,ec,Kt⟩,⟨pa,pc,My⟩⟩:=ay.form;obtain⟨ia,ic,Cx⟩:=YH.form Pt;obtain⟨ta,tc,mj⟩:=Row.form SX;subst Hi;subst Kt;subst My;subst Cx;subst mj;have E2:=Zh ay;have EL:=Zh SX;have hz7:=Z9 w4 (.cells Xf 100);clear Pp gK dx ok1 ok2 st1 st2 st3 ay Pt SX)|(with_reducible refine Zs (cells:=(Jz T.XX T.XQ ca cc ea ec pa pc T.Wx ia T.items.length ic ta T.turns.length tc T.unknown)) hz7 ?_))
   generalize take R ep ⟨kd,p,s,q,nm,ss⟩ bb sv=TT at *
   obtain⟨⟨T',R'⟩,ep'⟩:=TT;dsimp only at HD4 HOK1 xj eU oX;have pY:Below w4 w4 ((w4.alloc (.cells Xf 100)).setRow w4 (Jz T.XX T.XQ ca cc ea ec pa pc T.Wx ia T.items.length ic ta T.turns.length tc T.unknown)):=Z0 (Z' w4 _) (Zw _) _;have HC:Hid (WH w ((w4.alloc (.cells Xf 100)).setRow w4 (Jz T.XX T.XQ ca cc ea ec pa pc T.Wx ia T.items.length ic ta T.turns.length tc T.unknown)) w (Jf (some ⟨g',off',none⟩) L.length vc av mv lv) av (XZ L j) mv M lv (Zu L L.length j)):=(HBK3.o.frA nS.o HD3.o.apartB).below pY;have HR:Hid (RO ((w4.alloc (.cells Xf 100)).setRow w4 (Jz T.XX T.XQ ca cc ea ec pa pc T.Wx ia T.items.length ic ta T.turns.length tc T.unknown)) g b w4 R' ep' (Jz T.XX T.XQ ca cc ea ec pa pc T.Wx ia T.items.length ic ta T.turns.length tc T.unknown) (.slice ta T.turns.length tc) T.turns ⟨T.XQ,T.Wx,.slice ca T.XQ.VF.length cc,.slice ea T.XQ.ext.length ec,.slice pa T.XQ.ZE.length pc⟩):=⟨HD4.o.below pY,Row.below EL.o pY,E2.o.below pY,setRow_heap _ _ _ _ _ _ hz7⟩;have HGE:Hid (w.heap.size≤g∧w.heap.size≤b):=Av.o.kg.2
   have RZ:Hid (Below w w ((w4.alloc (.cells Xf 100)).setRow w4 (Jz T.XX T.XQ ca cc ea ec pa pc T.Wx ia T.items.length ic ta T.turns.length tc T.unknown))):=(((Fr.Z6 Pz wW.o).trans ⟨nS.o.os,nS.o.tape,nS.o.output,nS.o.size,fun k hk _=>nS.o.block k (OB hk wW.o.size) (by have:=HGE.o;omega)⟩).below).trans (pY.mono (PX wW.o.size nS.o.size));clear pY hz7 HBK3 wW HD3 HD4 nS E2 EL CT Ax HTO SQ WU;generalize((w4.alloc (.cells Xf 100)).setRow w4 (Jz T.XX T.XQ ca cc ea ec pa pc T.Wx ia T.items.length ic ta T.turns.length tc T.unknown))=w5 at *
   generalize w4.heap.size=K at *
   have HC:=Zh (HC.o.below (YI _ _).drew);have HR:=Zh (HR.o.below (YI _ _).drew);have RZ:=Zh RZ.o.drew
   have ZB:Hid (∀(w':World) c3,w'.heap[w.heap.size]?=some (.cells (Jf (some ⟨g',off',none⟩) L.length vc av mv c3) 116 (0,0))→w'.heap[K]?=some (.cells (Jz T.XX T.XQ ca cc ea ec pa pc T.Wx ia T.items.length ic ta T.turns.length tc T.unknown) 100 (0,0))→w'.cell? ⟨w,1,none⟩=some av∧w'.cell? ⟨w,2,none⟩=some mv∧w'.rangeAt K 0 (Ju T.XX)∧w'.rangeAt K 4 (Jr T.XQ ca cc ea ec pa pc T.Wx)):=fun w' c3 h1 h2=>
    ⟨Zc h1 1 rfl,Zc h1 2 rfl,fun m v hm=>by
     have h:=(List.getElem?_eq_some_iff.1 hm).1;have h:m<4:=by simpa using h
     rw[cell_of h2 (0+m),PW];rcases m with _|_|_|_|m
     ·exact hm
     ·exact hm
     ·exact hm
     ·exact hm
     ·omega,fun m v hm=>by
     have h:=(List.getElem?_eq_some_iff.1 hm).1;have h:m<15:=by simpa using h
     rw[cell_of h2 (4+m)];rcases m with _|_|_|_|_|_|_|_|_|_|_|_|_|_|_|m
     all_goals first|exact hm|omega⟩
   go_upto_region 7 with fail
   go_cut [] (fun wx=>∃(na:Option Addr) (nc:Nat) (ma:Option Addr) (mc:Nat),WH w wx w #[.slice (some ⟨g',off',none⟩) L.length vc,.slice na (j+1) nc,.slice ma (j+1) mc,lv] (.slice na (j+1) nc) (XZ L j++[T.XX]) (.slice ma (j+1) mc) (M++[(⟨T.XQ,T.Wx,.slice ca T.XQ.VF.length cc,.slice ea T.XQ.ext.length ec,.slice pa T.XQ.ZE.length pc⟩:TK)]) lv (Zu L L.length j)∧RO wx g b K R' ep' (Jz T.XX T.XQ ca cc ea ec pa pc T.Wx ia T.items.length ic ta T.turns.length tc T.unknown) (.slice ta T.turns.length tc) T.turns ⟨T.XQ,T.Wx,.slice ca T.XQ.VF.length cc,.slice ea T.XQ.ext.length ec,.slice pa T.XQ.ZE.length pc⟩∧Below w w wx)
   case first=>
    refine R5 ?_;refine Z_.Zj (d:=20) (S:=(fun w'=>w'.cell? ⟨w,1,none⟩=some av∧w'.cell? ⟨w,2,none⟩=some mv∧w'.rangeAt K 0 (Ju T.XX)∧w'.rangeAt K 4 (Jr T.XQ ca cc ea ec pa pc T.Wx))) X_ ?_ (fun _=>?_)
    ·exact ZB.o _ _ HC.o.Y8 HR.o.tk
    refine YP 0 (h:=YP 1 (h:=YP 2 (h:=YP 3 (h:=YP 4 (h:=YP 6 (h:=YP 10 (h:=YP 11 (h:=YP 12 (h:=YP 14 (h:=YK 5 (h:=?_)))))))))));refine Z_.MG (i:=7) (v:=?_) rfl X_ X_ X_ X_ (fun _ _ _ h=>h) (WO ⟨Zr,?_⟩) SU ?_
    rotate_left
    ·intro w Ub
     (try dsimp only at Ub)
     refine(Xq 35 (.tmp 34) ?_ K 0 ?_ (Ju T.XX) _ Ub.2.2.1 underlying35 rfl X_).trans ?_;all_goals rfl
    try simp only[Z_.pt]
    refine YK 13 (h:=?_);refine Z_.MG (i:=15) (v:=?_) rfl X_ X_ X_ X_ (fun _ _ _ h=>h) (WO ⟨Zr,?_⟩) SU ?_
    rotate_left
    ·intro w Ub
     (try dsimp only at Ub)
     refine(Xq 97 (.tmp 42) ?_ K 4 ?_ (Jr T.XQ ca cc ea ec pa pc T.Wx) _ Ub.2.2.2 underlying97 rfl X_).trans ?_;all_goals rfl
    try simp only[Z_.pt]
    refine Z_.TF (rs:=[8,16]) X_ Zi ?_;refine Z_.Wa (i:=8) rfl (fun K hK=>?_) ?_
    ·skip
     refine Xe Zr NW (.tmp 35) Zr (Ju T.XX) Zr Zr Zd ?_;have HR8:Hid (Row (w5.drew.alloc (.cells (Ju T.XX) 35)) 35 (.slice (some ⟨w5.drew.heap.size,0,none⟩) 1 1) 1 ([T.XX].flatMap VE)):=VA w5.drew 35 1 ([T.XX].flatMap VE) Zd;have U8:=Z' w5.drew (.cells (Ju T.XX) 35);have HC:=Zh (HC.o.below U8);have HR:=Zh (HR.o.below U8);have RZ:=Zh (Tr RZ U8);clear U8;refine Z_.Y9 hK _ _ ?_ (fun _=>?_)
     ·exact ZB.o _ _ HC.o.Y8 HR.o.tk
     clear hK K;try simp only[Z_.pt]
     refine Z_.TF (rs:=[9,16]) X_ Zi ?_;refine Z_.Wa (i:=9) rfl (fun K hK=>?_) ?_
     ·skip
      refine Ze Zr (.tmp 33) (.tmp 36) 37 Zr w NW av (XZ L j).length ((XZ L j).flatMap VE) Zr HC.o.XX _ 1 ([T.XX].flatMap VE) Zr HR8.o rfl (U6 fun x _=>GJ x) (by rw[XK];omega) (by rw[XK];omega) ?_ ?_
      ·exact RZ.o.size
      intro v9 w6 xh oJ;have iE:Hid (w6.ownsRow w 35 4 v9 (XZ L j++[T.XX]).length ((XZ L j++[T.XX]).flatMap VE)):=(by have h:=xh.o;rw[UG,OD];exact h);obtain⟨na,nc,Nr,-⟩:=Row.Z4 iE.o;rw[show(XZ L j++[T.XX]).length=j+1 by rw[UG,XK];rfl]at Nr;subst Nr;have HFA:Hid (wq (w5.drew.alloc (.cells (Ju T.XX) 35)) (fun i=>av.ownBlock=some i)):=fun i hi=>(by obtain⟨cu,hc⟩:=Wi HC.o.XX i hi;exact⟨cu,_,_,hc,WB (WO rfl)⟩)
      have HR:=Zh (HR.o.far (XS oJ.o) HFA.o);have RZ:Hid (Below w w w6):=((Fr.Z6 Pz RZ.o).grown oJ.o RZ.o.size (YL HC.o.XX)).below;have HC:=Zh (HC.o.Co oJ.o iE.o);refine Z_.Y9 hK _ _ ?_ (fun _=>?_)
      ·exact ZB.o _ _ HC.o.Y8 HR.o.tk
      clear hK K;try simp only[Z_.pt]
      refine YR 16 (h:=fun K hK=>?_);refine Xe Zr Ki (.tmp 43) Zr (Jr T.XQ ca cc ea ec pa pc T.Wx) Zr Zr Zd ?_;have xk:Hid (Row (w6.alloc (.cells (Jr T.XQ ca cc ea ec pa pc T.Wx) 97)) 97 (.slice (some ⟨w6,0,none⟩) 1 1) 1 ([(⟨T.XQ,T.Wx,.slice ca T.XQ.VF.length cc,.slice ea T.XQ.ext.length ec,.slice pa T.XQ.ZE.length pc⟩:TK)].flatMap Xm)):=VA w6 97 1 ([(⟨T.XQ,T.Wx,.slice ca T.XQ.VF.length cc,.slice ea T.XQ.ext.length ec,.slice pa T.XQ.ZE.length pc⟩:TK)].flatMap Xm) Zd;have U8:=Z' w6 (.cells (Jr T.XQ ca cc ea ec pa pc T.Wx) 97);have HC:=Zh (HC.o.below U8);have HR:=Zh (HR.o.below U8);have RZ:=Zh (Tr RZ U8);clear U8;refine Z_.Y9 hK _ _ ?_ (fun _=>?_)
      ·exact ZB.o _ _ HC.o.Y8 HR.o.tk
      clear hK K;try simp only[Z_.pt]
      refine YR 17 (h:=fun K hK=>?_);refine Ze Zr (.tmp 41) (.tmp 44) 114 Zr w Ki mv M.length (M.flatMap Xm) Zr HC.o.KG _ 1 ([(⟨T.XQ,T.Wx,.slice ca T.XQ.VF.length cc,.slice ea T.XQ.ext.length ec,.slice pa T.XQ.ZE.length pc⟩:TK)].flatMap Xm) Zr xk.o rfl Dm (by rw[tI.o];omega) (by rw[tI.o];omega) ?_ ?_
      ·exact RZ.o.size
      intro v17 w7 HO17 Aj;have E1:Hid (w7.ownsRow w 97 15 v17 (M++[(⟨T.XQ,T.Wx,.slice ca T.XQ.VF.length cc,.slice ea T.XQ.ext.length ec,.slice pa T.XQ.ZE.length pc⟩:TK)]).length ((M++[(⟨T.XQ,T.Wx,.slice ca T.XQ.VF.length cc,.slice ea T.XQ.ext.length ec,.slice pa T.XQ.ZE.length pc⟩:TK)]).flatMap Xm)):=(by have h:=HO17.o;rw[UG,OD];exact h);obtain⟨ma,mc,lO,-⟩:=Row.Z4 E1.o;rw[show(M++[(⟨T.XQ,T.Wx,.slice ca T.XQ.VF.length cc,.slice ea T.XQ.ext.length ec,.slice pa T.XQ.ZE.length pc⟩:TK)]).length=j+1 by rw[UG,tI.o];rfl]at lO;subst lO;have HEA:Hid (∀x∈M++[(⟨T.XQ,T.Wx,.slice ca T.XQ.VF.length cc,.slice ea T.XQ.ext.length ec,.slice pa T.XQ.ZE.length pc⟩:TK)],Vy w7 x.p x.cv x.ev x.pv):=fun x hx=>Yo12
      have HFM:Hid (wq (w6.alloc (.cells (Jr T.XQ ca cc ea ec pa pc T.Wx) 97)) (fun i=>mv.ownBlock=some i)):=fun i hi=>(by obtain⟨cu,hc⟩:=Wi HC.o.KG i hi;exact⟨cu,_,_,hc,WB (WB (WO rfl))⟩)
      have HR:=Zh (HR.o.far (XS Aj.o) HFM.o);have RZ:Hid (Below w w w7):=((Fr.Z6 Pz RZ.o).grown Aj.o RZ.o.size (YL HC.o.KG)).below;have HC:=Zh (HC.o.cQ Aj.o E1.o HEA.o);obtain⟨b0,b1,b2,b3,b4⟩:=HC.o.cells;have b41:=b4 1;have b42:=b4 2;refine Z_.Y9 hK _ _ ?_ (fun _=>?_)
      ·exact ZB.o _ _ HC.o.Y8 HR.o.tk
      clear hK K;try simp only[Z_.pt]
      refine YP 18 (h:=YP 19 (h:=?_));refine YR 20 (h:=fun K hK=>?_);go_simp;have HFK:Hid (wq w7 (· = w.heap.size)):=fun i hi=>fk
      have HR:=Zh (HR.o.far (w':=w7.setCell ⟨w,1,none⟩ (.slice na (j+1) nc)) ((Fr.refl _ _ _).setAt _ _) HFK.o);have RZ:Hid (Below w w (w7.setCell ⟨w,1,none⟩ (.slice na (j+1) nc))):=((Fr.Z6 Pz RZ.o).setCell (p:=⟨w,1,none⟩) (WO (Zw _)) _).below;have HC:=Zh (HC.o.Gk 1 (.slice na (j+1) nc));obtain⟨d0,d1,d2,d3,d4⟩:=HC.o.cells;have d42:=d4 2;refine Z_.Yf hK _ _ X_ ?_;clear hK K;try simp only[Z_.pt]
      refine YP 21 (h:=YP 22 (h:=?_));refine YR 23 (h:=fun K hK=>?_);go_simp;have HFK:Hid (wq (w7.setCell ⟨w,1,none⟩ (.slice na (j+1) nc)) (· = w.heap.size)):=fun i hi=>fk
      have HR:=Zh (HR.o.far (w':=(w7.setCell ⟨w,1,none⟩ (.slice na (j+1) nc)).setCell ⟨w,2,none⟩ (.slice ma (j+1) mc)) ((Fr.refl _ _ _).setAt _ _) HFK.o);have RZ:Hid (Below w w ((w7.setCell ⟨w,1,none⟩ (.slice na (j+1) nc)).setCell ⟨w,2,none⟩ (.slice ma (j+1) mc))):=((Fr.Z6 Pz RZ.o).setCell (p:=⟨w,2,none⟩) (WO (Zw _)) _).below;have HC:=Zh (HC.o.Gk 2 (.slice ma (j+1) mc));refine Z_.Yf hK _ _ X_ ?_;clear hK K;try simp only[Z_.pt]
      refine Z_.Yx X_ ?_ _;refine QZ ?_;go_wp2_with fail
      go_meet;exact⟨na,nc,ma,mc,HC.o,HR.o,RZ.o⟩
     refine Z_.Wa (i:=16) rfl (fun K hK=>?_) Z_.QB;refine Xe Zr Ki (.tmp 43) Zr (Jr T.XQ ca cc ea ec pa pc T.Wx) Zr Zr Zd ?_;have xk:Hid (Row ((w5.drew.alloc (.cells (Ju T.XX) 35)).alloc (.cells (Jr T.XQ ca cc ea ec pa pc T.Wx) 97)) 97 (.slice (some ⟨(w5.drew.alloc (.cells (Ju T.XX) 35)).heap.size,0,none⟩) 1 1) 1 ([(⟨T.XQ,T.Wx,.slice ca T.XQ.VF.length cc,.slice ea T.XQ.ext.length ec,.slice pa T.XQ.ZE.length pc⟩:TK)].flatMap Xm)):=VA (w5.drew.alloc (.cells (Ju T.XX) 35)) 97 1 ([(⟨T.XQ,T.Wx,.slice ca T.XQ.VF.length cc,.slice ea T.XQ.ext.length ec,.slice pa T.XQ.ZE.length pc⟩:TK)].flatMap Xm) Zd;have U8:=Z' (w5.drew.alloc (.cells (Ju T.XX) 35)) (.cells (Jr T.XQ ca cc ea ec pa pc T.Wx) 97);have HC:=Zh (HC.o.below U8);have HR:=Zh (HR.o.below U8);have RZ:=Zh (Tr RZ U8);have HR8:=Zh (Row.below HR8.o U8);clear U8;refine Z_.Y9 hK _ _ ?_ (fun _=>?_)
     ·exact ZB.o _ _ HC.o.Y8 HR.o.tk
     clear hK K;try simp only[Z_.pt]
     refine YR 9 (h:=fun K hK=>?_);refine Ze Zr (.tmp 33) (.tmp 36) 37 Zr w NW av (XZ L j).length ((XZ L j).flatMap VE) Zr HC.o.XX _ 1 ([T.XX].flatMap VE) Zr HR8.o rfl (U6 fun x _=>GJ x) (by rw[XK];omega) (by rw[XK];omega) ?_ ?_
     ·exact RZ.o.size
     intro v9 w6 xh oJ;have iE:Hid (w6.ownsRow w 35 4 v9 (XZ L j++[T.XX]).length ((XZ L j++[T.XX]).flatMap VE)):=(by have h:=xh.o;rw[UG,OD];exact h);obtain⟨na,nc,Nr,-⟩:=Row.Z4 iE.o;rw[show(XZ L j++[T.XX]).length=j+1 by rw[UG,XK];rfl]at Nr;subst Nr;have HFA:Hid (wq ((w5.drew.alloc (.cells (Ju T.XX) 35)).alloc (.cells (Jr T.XQ ca cc ea ec pa pc T.Wx) 97)) (fun i=>av.ownBlock=some i)):=fun i hi=>(by obtain⟨cu,hc⟩:=Wi HC.o.XX i hi;exact⟨cu,_,_,hc,WB (WO rfl)⟩)
     exact Yx13
    refine Z_.Wa (i:=16) rfl (fun K hK=>?_) Z_.QB;refine Xe Zr Ki (.tmp 43) Zr (Jr T.XQ ca cc ea ec pa pc T.Wx) Zr Zr Zd ?_;have xk:Hid (Row (w5.drew.alloc (.cells (Jr T.XQ ca cc ea ec pa pc T.Wx) 97)) 97 (.slice (some ⟨w5.drew.heap.size,0,none⟩) 1 1) 1 ([(⟨T.XQ,T.Wx,.slice ca T.XQ.VF.length cc,.slice ea T.XQ.ext.length ec,.slice pa T.XQ.ZE.length pc⟩:TK)].flatMap Xm)):=VA w5.drew 97 1 ([(⟨T.XQ,T.Wx,.slice ca T.XQ.VF.length cc,.slice ea T.XQ.ext.length ec,.slice pa T.XQ.ZE.length pc⟩:TK)].flatMap Xm) Zd;have U8:=Z' w5.drew (.cells (Jr T.XQ ca cc ea ec pa pc T.Wx) 97);have HC:=Zh (HC.o.below U8);have HR:=Zh (HR.o.below U8);have RZ:=Zh (Tr RZ U8);clear U8;refine Z_.Y9 hK _ _ ?_ (fun _=>?_)
    ·exact ZB.o _ _ HC.o.Y8 HR.o.tk
    clear hK K;try simp only[Z_.pt]
    refine YR 8 (h:=fun K hK=>?_);refine Xe Zr NW (.tmp 35) Zr (Ju T.XX) Zr Zr Zd ?_;have HR8:Hid (Row ((w5.drew.alloc (.cells (Jr T.XQ ca cc ea ec pa pc T.Wx) 97)).alloc (.cells (Ju T.XX) 35)) 35 (.slice (some ⟨(w5.drew.alloc (.cells (Jr T.XQ ca cc ea ec pa pc T.Wx) 97)).heap.size,0,none⟩) 1 1) 1 ([T.XX].flatMap VE)):=VA (w5.drew.alloc (.cells (Jr T.XQ ca cc ea ec pa pc T.Wx) 97)) 35 1 ([T.XX].flatMap VE) Zd;have U8:=Z' (w5.drew.alloc (.cells (Jr T.XQ ca cc ea ec pa pc T.Wx) 97)) (.cells (Ju T.XX) 35);have HC:=Zh (HC.o.below U8);have HR:=Zh (HR.o.below U8);have RZ:=Zh (Tr RZ U8);have xk:=Zh (Row.below xk.o U8);clear U8;refine Z_.Y9 hK _ _ ?_ (fun _=>?_)
    ·exact ZB.o _ _ HC.o.Y8 HR.o.tk
    clear hK K;try simp only[Z_.pt]
    refine YR 9 (h:=fun K hK=>?_);refine Ze Zr (.tmp 33) (.tmp 36) 37 Zr w NW av (XZ L j).length ((XZ L j).flatMap VE) Zr HC.o.XX _ 1 ([T.XX].flatMap VE) Zr HR8.o rfl (U6 fun x _=>GJ x) (by rw[XK];omega) (by rw[XK];omega) ?_ ?_
    ·exact RZ.o.size
    intro v9 w6 xh oJ;have iE:Hid (w6.ownsRow w 35 4 v9 (XZ L j++[T.XX]).length ((XZ L j++[T.XX]).flatMap VE)):=(by have h:=xh.o;rw[UG,OD];exact h);obtain⟨na,nc,Nr,-⟩:=Row.Z4 iE.o;rw[show(XZ L j++[T.XX]).length=j+1 by rw[UG,XK];rfl]at Nr;subst Nr;have HFA:Hid (wq ((w5.drew.alloc (.cells (Jr T.XQ ca cc ea ec pa pc T.Wx) 97)).alloc (.cells (Ju T.XX) 35)) (fun i=>av.ownBlock=some i)):=fun i hi=>(by obtain⟨cu,hc⟩:=Wi HC.o.XX i hi;exact⟨cu,_,_,hc,WB (WO rfl)⟩)
    exact Yx13
   case rest=>
    obtain⟨w9,rfl⟩:∃W:World,W=wc:=⟨_,rfl⟩;obtain⟨na,nc,ma,mc,hbk9,aB,cZ⟩:=hcut;have HC:=Zh hbk9;have HR:=Zh aB;have RZ:=Zh cZ;have k20:=cell_of aB.tk 20;simp only[SN,Sy,R4]at k20;clear hbk9 aB cZ ZB;go_wp2_with fail
    go_loopw [53] (fun s53 w'=>∃(i:Nat) (Bl:Value),i≤T.turns.length∧s53 = .int .i64 (i:Int)∧WH w w' w #[.slice (some ⟨g',off',none⟩) L.length vc,.slice na (j+1) nc,.slice ma (j+1) mc,Bl] (.slice na (j+1) nc) (XZ L j++[T.XX]) (.slice ma (j+1) mc) (M++[(⟨T.XQ,T.Wx,.slice ca T.XQ.VF.length cc,.slice ea T.XQ.ext.length ec,.slice pa T.XQ.ZE.length pc⟩:TK)]) Bl (Xd L.length j (Zu L L.length j) (T.turns.take i))∧RO w' g b K R' ep' (Jz T.XX T.XQ ca cc ea ec pa pc T.Wx ia T.items.length ic ta T.turns.length tc T.unknown) (.slice ta T.turns.length tc) T.turns ⟨T.XQ,T.Wx,.slice ca T.XQ.VF.length cc,.slice ea T.XQ.ext.length ec,.slice pa T.XQ.ZE.length pc⟩∧Below w w w') (fun s53 _=>T.turns.length-(intOf s53).toNat)
    case atStart=>exact⟨0,lv,Zo,rfl,HC.o,HR.o,RZ.o⟩
    case round=>
     obtain⟨i,Bl,hi,rfl,iQ,hro,Xz⟩:=hrel;have GG:=Zh iQ;have rP:=Zh hro;have wV:=Zh Xz;clear HC HR RZ k20;by_cases lI:i<T.turns.length
     ·obtain⟨g5,off5,e5,V7⟩:=TI Z7 5 (fun _=>rfl) hro.turns Zo;cases e5;have ht:T.turns[i]?=some T.turns[i]:=Ve lI;have V7:=V7 i _ ht;have J1:=Zh (QX ht);generalize T.turns[i]=t at *
      have Lr:=Zh (Bj L.length j (Zu L L.length j) (T.turns.take i) t);have hlen:=M7 L.length j (T.turns.take i) (Zu L L.length j);rw[SY]at hlen;have M0:=HLL.o;have hlen3:=HTL.o;have NA:wr.rangeAt g5 (off5+i*5) (Jy t):=fun m v hm=>(V7 m j4).trans hm
      have hiI:(i:Int)<(T.turns.length:Int):=P6.2 lI;have hz:=Z9 wr (.cells (Qh 0 0 0 0 0) 158);have SQ:=setRow_heap _ _ _ (Jy t) _ _ hz;have WU:Hid (Below wr wr ((wr.alloc (.cells (Qh 0 0 0 0 0) 158)).setRow wr (Jy t))):=Z0 (Z' wr _) (Zw _) _;have HC3:=Zh (GG.o.below WU.o);have xu:=Zh (rP.o.below WU.o);have wW:=Zh (Tr wV WU.o);clear iQ hro Xz V7 GG rP WU;go_upto_region 11 with(first|(with_reducible refine Zm NA underlying158 ?_)|(with_reducible refine Zs (cells:=(Jy t)) hz ?_))
      clear hz NA;generalize((wr.alloc (.cells (Qh 0 0 0 0 0) 158)).setRow wr (Jy t))=Sm at *
      have CB:=Zh (oF w w.heap.size _ _ _ _ _ _ _ _ _ (j:Int) t Sm HC3.o wW.o.size Zo);go_wp2_with (first|(with_reducible refine Zl SQ underlying158 ?_)|(go_at_call 85;refine CB.o.mono ?_;rintro e EH ⟨rfl,lv2,hbk2,uA⟩;have ek:=Zh hbk2;have wZ:=Zh uA;clear hbk2 uA))
      have hfar:wq Sm (fun m=>m=w.heap.size∨Bl.ownBlock=some m):=fun m hm=>by
       rcases hm with rfl|hm
       ·exact⟨_,_,_,HC3.o.Y8,WO rfl⟩
       ·obtain⟨cu,hc⟩:=Wi HC3.o.QM m hm;exact⟨cu,_,_,hc,WB (WB (WB rfl))⟩
      have HR4:=Zh (xu.o.far wZ.o hfar)
      have hbf:Below w Sm EH:=(wZ.o.mono wW.o.size (S':=Pz) (fun m hm hs=>by
       rcases hs with rfl|hs
       ·exact absurd hm (Nat.lt_irrefl _)
       ·have:=YL HC3.o.QM m hs;omega)).below
      have HBL4:=Zh (wW.o.trans hbf);clear hfar hbf CB;go_roundw
      case rel=>exact⟨i+1,lv2,Zo,Zn,by rw[J1.o,Lr.o];exact ek.o,HR4.o,HBL4.o⟩
      case measure=>simp[intOf];omega
     ·have hT:T.turns.take i=T.turns:=EM Zo;rw[hT]at GG;clear iQ hro Xz hT;go_wp2;go_roundw
      case rel=>
       refine⟨j+1,.slice na (j+1) nc,.slice ma (j+1) mc,Bl,M++[(⟨T.XQ,T.Wx,.slice ca T.XQ.VF.length cc,.slice ea T.XQ.ext.length ec,.slice pa T.XQ.ZE.length pc⟩:TK)],R',ep',Zo,Zn,⟨wV.o,?_,?_,rP.o.RJ,HOK1.o,xj.o,eU.o,oX.o,Av.o.kg⟩⟩
       ·rw[HA1.o,E0.o];exact GG.o
       ·rw[iJ.o,Nv,Av.o.aX];rfl
      case measure=>simp[intOf];omega
  ·have Mi:j=L.length:=by omega
   subst Mi;have HOE:=Zh (HO.o.below Av.o.Zf);clear TP;go_wp2;go_ret;exact⟨_,g,b,_,av,mv,lv,M,R,ep,rfl,HOE.o,Av.o⟩
structure VB(w:World)(V k:Nat)(ov av mv lv:Value)(L:List WE)(x:Zx)(wv cv qv:Value):Prop where
 book:w.heap[k]?=some (.cells #[ov,av,mv,lv] 116 (0,0))
 ops:WY w ov L
 XX:Row w 35 av L.length ((XZ L L.length).flatMap VE)
 KG:∃M:List TK,Row w 97 mv M.length (M.flatMap Xm)∧(∀y∈M,Vy w y.p y.cv y.ev y.pv)∧M.map (fun y=>(y.p,y.d))=Od L L.length
 view:w.heap[V]?=some (.cells (Q7 (some ⟨k,0,none⟩) x.peer x.source x.Mr x.fin wv cv qv) 164 (0,0))
structure bO(w:World)(wv cv qv:Value)(j:Nat)(s:VS):Prop where
 want:∃g o n c,wv = .slice (some ⟨g,o,none⟩) n c∧j<n∧w.cell? ⟨g,o+j,none⟩=some (.int .i64 s.want)
 cur:∃g o n c,cv = .slice (some ⟨g,o,none⟩) n c∧j<n∧w.cell? ⟨g,o+j,none⟩=some (.int .i64 s.cur)
 quiet:∃g o n c,qv = .slice (some ⟨g,o,none⟩) n c∧j<n∧w.cell? ⟨g,o+j,none⟩=some (.bool s.quiet)
def Ws(l:List Int):List Value:=l.map fun z=> .int .i64 z
def U5(l:List Bool):List Value:=l.map fun z=> .bool z
structure Oy(w:World)(wv cv qv:Value)(SS:List VS):Prop where
 want:Row w 3 wv SS.length (Ws (SS.map VS.want))
 cur:Row w 3 cv SS.length (Ws (SS.map VS.cur))
 quiet:Row w 4 qv SS.length (U5 (SS.map VS.quiet))
theorem Gh{w:World}{e:TypeId}{v:Value}{n:Nat}{xs:List Value}(h:Row w e v n xs){j:Nat}{u:Value}(hu:xs[j]?=some u)(hj:j<n):∃g o n' c,v = .slice (some ⟨g,o,none⟩) n' c∧j<n'∧w.cell? ⟨g,o+j,none⟩=some u:=by
 have hl:j<xs.length:=(List.getElem?_eq_some_iff.1 hu).1;obtain⟨g,off,cap,h1,h2,h3,h4,h5⟩:=Row.open h Zo;exact⟨g,off,n,cap,h1,hj,(h5 j hl).trans hu⟩
theorem Oy.at{w:World}{wv cv qv:Value}{SS:List VS}(h:Oy w wv cv qv SS){j:Nat}{s:VS}(hs:SS[j]?=some s):bO w wv cv qv j s:=by
 have hl:j<SS.length:=(List.getElem?_eq_some_iff.1 hs).1;exact⟨Gh h.want (by simp[Ws,hs]) hl,Gh h.cur (by simp[Ws,hs]) hl,Gh h.quiet (by simp[U5,hs]) hl⟩
section
variable {w w':World} {V k:Nat} {ov av mv lv:Value} {L:List WE} {x:Zx} {wv cv qv:Value}
theorem VB.below(h:VB w V k ov av mv lv L x wv cv qv)(hb:Below w w w'):VB w' V k ov av mv lv L x wv cv qv:=by
 obtain⟨M,m1,m0,m2⟩:=h.KG;exact⟨(hb.block _ (ZX h.book)).trans h.book,h.ops.below hb,Row.below h.XX hb,⟨M,Row.below m1 hb,fun y hy=>(m0 y hy).below hb,m2⟩,(hb.block _ (ZX h.view)).trans h.view⟩
theorem Oy.below{SS:List VS}(h:Oy w wv cv qv SS)(hb:Below w w w'):Oy w' wv cv qv SS:=⟨Row.below h.want hb,Row.below h.cur hb,Row.below h.quiet hb⟩
theorem ZG{g o:Nat}{u:Value}(h:w.cell? ⟨g,o,none⟩=some u)(hb:Below w w w'):w'.cell? ⟨g,o,none⟩=some u:=by
 have hg:g<w.heap.size:=by
  rcases Nat.lt_or_ge g w with h1|h1
  ·exact h1
  ·simp only[World.cell?,D_ h1]at h;cases h
 exact(hb.cell (p:=⟨g,o,none⟩) hg).trans h
theorem bO.below{j:Nat}{s:VS}(h:bO w wv cv qv j s)(hb:Below w w w'):bO w' wv cv qv j s:=by
 obtain⟨⟨g1,o1,n1,c1,a1,b1,d1⟩,⟨g2,o2,n2,c2,a2,b2,d2⟩,⟨g3,o3,n3,c3,a3,b3,d3⟩⟩:=h;exact⟨⟨g1,o1,n1,c1,a1,b1,ZG d1 hb⟩,⟨g2,o2,n2,c2,a2,b2,ZG d2 hb⟩,⟨g3,o3,n3,c3,a3,b3,ZG d3 hb⟩⟩
theorem mU(h:WY w ov L){j:Nat}(hj:j<L.length):∃g o c nm a1 n1 c1 a2 n2 c2,ov = .slice (some ⟨g,o,none⟩) L.length c ∧
  w.rangeAt g (o+j*7) (Qa (opAt L j).kind (opAt L j).peer (opAt L j).source (opAt L j).ZI nm a1 n1 c1 a2 n2 c2):=by
 obtain⟨va,vc,rfl,-,-⟩:=h.form;obtain⟨g,o,cap,e1,-,-,-,V7⟩:=Rm.K4 (fun y:WE=>Rm.XJ y.x) 7 (fun _=>rfl) Zo h.row Zo;cases e1;have hy:L[j]?=some L[j]:=Ve hj;have V7:=V7 j _ hy;have e2:opAt L j=L[j].x.o:=by unfold opAt;rw[hy]
 rw[e2];exact⟨g,o,_,_,_,_,_,_,_,_,rfl,fun m v hm=>(V7 m j4).trans hm⟩
theorem rX{n:Nat}(h:Row w 35 av n ((XZ L n).flatMap VE)){j:Nat}(hj:j<n):∃g o c,av = .slice (some ⟨g,o,none⟩) n c ∧
  w.rangeAt g (o+j*4) (Qb (Z5 L j).XX.kind (Z5 L j).XX.source (Z5 L j).XX.NH (Z5 L j).XX.err):=by
 obtain⟨a,c,rfl⟩:=Row.form h;obtain⟨g,o,e,h2⟩:=TI VE 4 (fun _=>rfl) h (by rw[XK];omega);cases e;have hx:(XZ L n)[j]?=some (Z5 L j).XX:=by unfold XZ;rw[List.getElem?_map,List.getElem?_range hj];rfl
 exact⟨g,o,c,rfl,fun m v hm=>(h2 j _ hx m j4).trans hm⟩
theorem JC(h:VB w V k ov av mv lv L x wv cv qv){j:Nat}(hj:j<L.length):∃g o c a1 n1 c1 a2 n2 c2 a3 n3 c3,mv = .slice (some ⟨g,o,none⟩) L.length c ∧
  w.rangeAt g (o+j*15) (VJ (Z5 L j).XQ (Z5 L j).Wx (.slice a1 n1 c1) (.slice a2 n2 c2) (.slice a3 n3 c3)):=by
 obtain⟨M,m1,m0,m2⟩:=h.KG;have hl:M.length=L.length:=by have h1:=congrArg List.length m2;rwa[Tx,FZ]at h1
 rw[hl]at m1;obtain⟨a,c,rfl⟩:=Row.form m1;obtain⟨g,o,e,h2⟩:=TI Xm 15 (fun _=>rfl) m1 Zo;cases e;have hj':j<M.length:=by omega
 have hx:M[j]?=some M[j]:=Ve hj'
 have he:(M[j].p,M[j].d)=((Z5 L j).XQ,(Z5 L j).Wx):=by
  have h3:=congrArg (fun l=>l[j]?) m2;try dsimp only at h3
  rw[List.getElem?_map,hx]at h3;unfold Od at h3;rw[List.getElem?_map,List.getElem?_range hj]at h3;exact Option.some.inj h3
 injection he with e1 e2
 have V7:=h2 j _ hx;have hp:=m0 M[j] (OC hj');generalize M[j]=y at *
 obtain⟨p,d,cv',ev',pv'⟩:=y;obtain⟨⟨a1,c1,q1⟩,⟨a2,c2,q2⟩,⟨a3,c3,q3⟩⟩:=hp.form;dsimp only at q1 q2 q3 e1 e2;subst q1;subst q2;subst q3;subst e1;subst e2;exact⟨g,o,c,a1,_,c1,a2,_,c2,a3,_,c3,rfl,fun m v hm=>(V7 m (by have h:=(List.getElem?_eq_some_iff.1 hm).1;simpa[VJ]using h)).trans hm⟩
end
theorem DA{w:World}{g o:Nat}{xs ys:List Value}(h:w.rangeAt g o xs)(i:Nat)(hy:∀m v,ys[m]?=some v→xs[i+m]?=some v):w.rangeAt g (o+i) ys:=fun m v hm=>by rw[Nat.add_assoc];exact h (i+m) v (hy m v hm)
theorem Oz(V:Nat)(p s b f:Int)(wv cv qv bv:Value)(w:World)(h:w.heap[V]?=some (.cells #[bv,.int .i64 p,.int .i64 s,.int .i64 b,.int .i64 f,wv,cv,qv] 164 (0,0)))(at':Int) :
  Calls prog 115 (Qj (some ⟨V,0,none⟩) at') w fun e w'=>e = .returned (.bool (Wh ⟨p,s,b,f⟩ at'))∧w=w':=by
 have c3:w.cell? ⟨V,3,none⟩=some (.int .i64 b):=Zc h 3 rfl;have c4:w.cell? ⟨V,4,none⟩=some (.int .i64 f):=Zc h 4 rfl;have HX:Hid (Wh ⟨p,s,b,f⟩ at'=(decide (b<at')&&decide (at'<f))):=rfl;generalize Wh ⟨p,s,b,f⟩ at'=X at *
 clear h;by_cases h1:b<at'
 ·have d1:decide (b<at')=true:=Ww h1;go_enter func115,ntmps115;go_wp2_with fail
  go_ret;exact⟨by rw[HX.o,d1];rfl,rfl⟩
 ·have d1:decide (b<at')=false:=Wz h1;go_enter func115,ntmps115;go_wp2_with fail
  go_ret;exact⟨by rw[HX.o,d1];rfl,rfl⟩
end Go.Proofs.By
