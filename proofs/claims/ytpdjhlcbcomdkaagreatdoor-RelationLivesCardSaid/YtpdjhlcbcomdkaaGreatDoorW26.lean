/- Part of a proof. -/
import Derived.Test.YtpdjhlcbcomdkaaGreatDoorW12
set_option linter.unusedVariables false
set_option linter.unusedSimpArgs false
set_option maxRecDepth 100000
set_option maxHeartbeats 16000000
open Go Go.Q Go.Qr
namespace Go.Proofs.By
open Go.RowKit Go.WideShapes Go.ChangeShapes Go.Proofs.Heap Go.Proofs.Mem Go.Deep
open Go.Proofs.Rm (aL Xm YO V5 E9 Nk K5 seven NT Op)
structure Xe (w:World) (v:Value) (L:List VG):Prop where
 row:XU w v L.length (L.flatMap fun y=>Xm y.x)
 each:∀ y∈L,XU w (.slice y.x.sa y.x.o.ZK.length y.x.sc) y.x.o.ZK.length (YO y.x.o.ZK)∧X9 w (.slice y.x.ba y.x.bl y.x.bc) y.b∧y.x.o.name.length<9223372036854775807
theorem Xe.below {w w':World} {v:Value} {L:List VG} (h:Xe w v L) (hb:Below w w w'):Xe w' v L:=⟨h.row.below hb,fun y hy=>⟨(h.each y hy).1.below hb,(h.each y hy).2.1.below hb,(h.each y hy).2.2⟩⟩
section
variable {H:Type} {enc:TypeId × Value→H} {W:World} {base:Nat} {sp:Nat→Bool} {held:Bool}
theorem qP {z:Int} (h:(Lit.int .u8 z).wf=true):0≤z∧z<256:=by
 have h:=(TU _ _).mp h
 have h1:=of_decide_eq_true h.1
 have h2:=of_decide_eq_true h.2
 have e1:IntKind.min .u8=0:=by decide
 have e2:IntKind.max .u8=255:=by decide
 omega
theorem qL {fuel:Nat} {v:Value} {x:DataW H × List MemPlace} (h:DataW.trod enc Tryz.prog W base sp held fuel 30 [v]=some x):∃ (l:List UInt8) (a:Option Addr) (n c:Nat),v = .slice a n c∧X9 W (.slice a n c) l:=by
 rcases open_slice1 Tryz.underlying30 ZB h with ⟨hc,_⟩|⟨a,len,cap,m,n,V,D,Pl,Tz,hb,hl,hm,hmm,_,hx⟩
 ·exact ⟨[],none,0,0,by simpa using hc,XU.nil _⟩
 ·have BB:len≤m:=by rw [hmm];split <;> omega
  have hv:v = .slice (some a) len cap:=by simpa using Tz
  have key:∀ i,i<len→∃ z:UInt8,W.cell? (a.add i)=some (.int .u8 (z.toNat:Int))∧V i = .int .u8 (z.toNat:Int):=by
   intro i hi
   obtain ⟨h1,h2⟩:=hx i Zo
   obtain ⟨z,hz,_,hwf⟩:=DataW.trod_int Tryz.underlying5 h2
   obtain ⟨r0,r1⟩:=qP hwf
   have hz:V i = .int .u8 z:=by simpa using hz
   have e:((UInt8.ofNat z.toNat).toNat:Int)=z:=by
    rw [UInt8.toNat_ofNat']
    omega
   exact ⟨UInt8.ofNat z.toNat,by rw [h1,hz,e],by rw [hz,e]⟩
  let l:List UInt8:=(List.range len).map fun i=>match V i with | .int _ z=>UInt8.ofNat z.toNat|_=>0
  have w_:l.length=len:=by simp [l]
  refine ⟨l,some a,len,cap,hv,some a,cap,by rw [w_],by rw [w_];exact hl,hm,(fun h=>by cases h),?_⟩
  by_cases h0:len=0
  ·exact Ww (Cc (by rw [Xl,w_];exact h0))
  ·obtain ⟨z0,vg,_⟩:=key 0 Zo
   have pV:W.cell? a=some (.int .u8 (z0.toNat:Int)):=by unfold Addr.add at vg;simpa using vg
   have ha:=Nk pV
   refine Wi ⟨a.block,a.off,by rw [←ha],World.block_lt_of_cell? W a pV,fun j hj=>?_⟩
   rw [Xl,w_] at hj
   obtain ⟨z,hz,hV⟩:=key j hj
   rw [←K5 ha,hz]
   have hlj:l[j]?=some z:=by
    have e:UInt8.ofNat z.toNat=z:=by simp
    simp [l,hj,hV]
   simp only [RX,List.getElem?_map,hlj,Option.map_some]
theorem qK {fuel:Nat} {cs:List Value} {x:DataW H × List MemPlace} (h:DataW.trod enc Tryz.prog W base sp held fuel 32 cs=some x) :
  ∃ y:VG,cs=Xm y.x∧(XU W (.slice y.x.sa y.x.o.ZK.length y.x.sc) y.x.o.ZK.length (YO y.x.o.ZK)∧X9 W (.slice y.x.ba y.x.bl y.x.bc) y.b)∧y.x.o.name.length∈x.1.weights Tryz.prog 32:=by
 obtain ⟨xs,n,_,rD,hlen,hxl,hf⟩:=DataW.trod_struct Tryz.underlying32 h
 have hC:Tryz.prog.cellsOf 32=7:=by kernel_rfl
 have k1:Tryz.prog.cellsOf 3=1:=by kernel_rfl
 have k2:Tryz.prog.cellsOf 9=1:=by kernel_rfl
 have k3:Tryz.prog.cellsOf 29=1:=by kernel_rfl
 have k4:Tryz.prog.cellsOf 30=1:=by kernel_rfl
 rw [hC] at hlen
 obtain ⟨c0,c1,c2,c3,c4,c5,c6,rfl⟩:∃ c0 c1 c2 c3 c4 c5 c6,cs=[c0,c1,c2,c3,c4,c5,c6]:=seven hlen
 clear h hC
 have hx:∀ j,j<7→∃ y,xs[j]?=some y:=fun j hj=>⟨xs[j]'(by rw [hxl];exact hj),U7 _⟩
 obtain ⟨y0,e0⟩:=hx 0 Zo
 obtain ⟨y1,e1⟩:=hx 1 Zo
 obtain ⟨y2,e2⟩:=hx 2 Zo
 obtain ⟨y3,e3⟩:=hx 3 Zo
 obtain ⟨y4,e4⟩:=hx 4 Zo
 obtain ⟨y5,e5⟩:=hx 5 Zo
 obtain ⟨y6,e6⟩:=hx 6 Zo
 have h0:DataW.trod enc Tryz.prog W base sp held n 3 (([c0,c1,c2,c3,c4,c5,c6].drop 0).take (Tryz.prog.cellsOf 3))=some y0:=(hf 0 _ rfl).trans e0
 have h1:DataW.trod enc Tryz.prog W base sp held n 3 (([c0,c1,c2,c3,c4,c5,c6].drop 1).take (Tryz.prog.cellsOf 3))=some y1:=(hf 1 _ rfl).trans e1
 have h2:DataW.trod enc Tryz.prog W base sp held n 3 (([c0,c1,c2,c3,c4,c5,c6].drop 2).take (Tryz.prog.cellsOf 3))=some y2:=(hf 2 _ rfl).trans e2
 have h3:DataW.trod enc Tryz.prog W base sp held n 3 (([c0,c1,c2,c3,c4,c5,c6].drop 3).take (Tryz.prog.cellsOf 3))=some y3:=(hf 3 _ rfl).trans e3
 have h4:DataW.trod enc Tryz.prog W base sp held n 9 (([c0,c1,c2,c3,c4,c5,c6].drop 4).take (Tryz.prog.cellsOf 9))=some y4:=(hf 4 _ rfl).trans e4
 have h5:DataW.trod enc Tryz.prog W base sp held n 29 (([c0,c1,c2,c3,c4,c5,c6].drop 5).take (Tryz.prog.cellsOf 29))=some y5:=(hf 5 _ rfl).trans e5
 have h6:DataW.trod enc Tryz.prog W base sp held n 30 (([c0,c1,c2,c3,c4,c5,c6].drop 6).take (Tryz.prog.cellsOf 30))=some y6:=(hf 6 _ rfl).trans e6
 rw [k1] at h0 h1 h2 h3
 rw [k2] at h4
 rw [k3] at h5
 rw [k4] at h6
 obtain ⟨z0,g0,_⟩:=DataW.trod_int Tryz.underlying3 h0
 obtain ⟨z1,g1,_⟩:=DataW.trod_int Tryz.underlying3 h1
 obtain ⟨z2,g2,_⟩:=DataW.trod_int Tryz.underlying3 h2
 obtain ⟨z3,g3,_⟩:=DataW.trod_int Tryz.underlying3 h3
 obtain ⟨s4,g4,gy4,hs4⟩:=DataW.trod_string Tryz.underlying9 h4
 obtain ⟨l5,a5,n5,g5,hr5⟩:=E9 (v:=c5) h5
 obtain ⟨b6,a6,l6,n6,g6,hr6⟩:=qL (v:=c6) h6
 have g0:c0 = .int .i64 z0:=by simpa using g0
 have g1:c1 = .int .i64 z1:=by simpa using g1
 have g2:c2 = .int .i64 z2:=by simpa using g2
 have g3:c3 = .int .i64 z3:=by simpa using g3
 have g4:c4 = .string s4:=by simpa using g4
 refine ⟨⟨⟨⟨z0,z1,z2,z3,s4.data.toList,l5⟩,a5,n5,a6,l6,n6⟩,b6⟩,?_,⟨hr5,hr6⟩,?_⟩
 ·rw [g0,g1,g2,g3,g4,g5,g6];simp only [Xm,fD]
 ·exact Yx97
theorem EO {t:TypeId} {v:Value} {d:DataW H} {ps:List MemPlace} (ht:Tryz.prog.underlying t=some (.slice 32)) (Mp:v.cells=#[v]) (h:DataW.Trod enc Tryz.prog W base sp held t v d ps) (hz:∀ n∈d.weights Tryz.prog t,n≤reachBytes):∃ l,Xe W v l:=by
 obtain ⟨fuel,h⟩:=h
 rw [Mp] at h
 have hC:Tryz.prog.cellsOf 32=7:=by kernel_rfl
 rcases open_slice ht h with ⟨hc,_⟩|⟨a,len,cap,m,n,D,Pl,Tz,hb,hl,hm,hmm,dP,hx⟩
 ·have:v = .slice none 0 0:=by simpa using hc
  subst this
  exact ⟨[],XU.nil _,fun x hx=>by simp at hx⟩
 ·have BB:len≤m:=by rw [hmm];split <;> omega
  have hv:v = .slice (some a) len cap:=by simpa using Tz
  subst hv
  have key:∀ i,∃ y:VG,i<len→(∀ j,j<7→W.cell? ((a.add (i*7)).add j)=(Xm y.x)[j]?)∧(XU W (.slice y.x.sa y.x.o.ZK.length y.x.sc) y.x.o.ZK.length (YO y.x.o.ZK)∧X9 W (.slice y.x.ba y.x.bl y.x.bc) y.b∧y.x.o.name.length<9223372036854775807):=by
   intro i
   by_cases hi:i<len
   ·obtain ⟨cs',h1,h2⟩:=hx i Zo
    rw [hC] at h1
    obtain ⟨_,hcl',Vc⟩:=World.cells?_some h1
    obtain ⟨y,hy,⟨hr,Nf⟩,hn⟩:=qK h2
    have ek:y.x.o.name.length<9223372036854775807:=by
     have hd:d = .slice ((List.range len).map D) ((List.range (m-len)).map fun j=>D (len+j)):=by injection dP
     have:=hz y.x.o.name.length (by
      rw [hd]
      unfold DataW.weights
      rw [ht]
      refine List.mem_cons_of_mem _ (D5.2 (Ww (NT (wD.2 ⟨i,by simpa using hi,rfl⟩) _ hn))))
     have:=Nat.lt_of_le_of_lt this reachBytes_lt
     omega
    refine ⟨y,fun _=>⟨fun j hj=>?_,hr,Nf,ek⟩⟩
    have:=Vc j hj
    rw [←hy,this]
   ·exact ⟨⟨⟨⟨0,0,0,0,[],[]⟩,none,0,none,0,0⟩,[]⟩,fun h=>absurd h hi⟩
  obtain ⟨Y,hY⟩:=Classical.axiomOfChoice key
  let l:List VG:=(List.range len).map Y
  have w_:l.length=len:=by simp [l]
  refine ⟨l,⟨some a,cap,by rw [w_],by rw [w_];exact hl,hm,(fun h=>by cases h),?_⟩,?_⟩
  ·by_cases h0:len=0
   ·exact Ww (by rw [Cc (w_.trans h0)];rfl)
   ·have hz:=(hY 0 Zo).1 0 Zo
    have vg:W.cell? a=some (.int .i64 (Y 0).x.o.kind):=by simpa [Addr.add,Xm] using hz
    have ha:=Nk vg
    refine Wi ⟨a.block,a.off,by rw [←ha],World.block_lt_of_cell? W a vg,fun j hj=>?_⟩
    have yU:(l.flatMap fun y=>Xm y.x).length=len*7:=by rw [XK (fun y:VG=>Xm y.x) 7 (fun _=>rfl),w_]
    rw [yU] at hj
    have hi:j / 7<len:=by omega
    have hli:l[j / 7]?=some (Y (j / 7)):=by simp [l,hi]
    have:=M_ (fun y:VG=>Xm y.x) 7 (fun _=>rfl) l (j / 7) (j % 7) _ hli Zo
    exact Yx112
  ·intro x hx
   obtain ⟨i,hi,rfl⟩:=wD.1 hx
   exact (hY i (by simpa using hi)).2
end
end Go.Proofs.By
