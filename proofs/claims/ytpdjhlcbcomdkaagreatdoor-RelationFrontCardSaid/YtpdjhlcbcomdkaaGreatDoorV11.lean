/- Several texts in one: The walk of door.media. The walks of package desc: Get. The walk of sift.Of: a datagram that is no feedback. The walk of door.datagram: a datagram that is no feedback. The walk of door.Take. What package front computes. Plain. The walks of package front and of door: New, Room, Epoch, Counts, Table; a front that is none. The walk of front.Take. The walks of the law's own functions begin, packet; front.Take of what is no feedback. -/
import Derived.Deep.RegionHeld3
import Derived.IntWalk
import Derived.Deep.DeepCutAuto
import Derived.Deep.CutBlock
import Derived.Test.YtpdjhlcbcomdkaaGreatDoorV01
import Derived.Test.YtpdjhlcbcomdkaaGreatDoorV02
import Derived.Test.YtpdjhlcbcomdkaaGreatDoorV03
import Derived.Test.YtpdjhlcbcomdkaaGreatDoorV05
import Derived.Test.YtpdjhlcbcomdkaaGreatDoorV06
import Derived.Test.YtpdjhlcbcomdkaaGreatDoorV07
import Derived.Test.YtpdjhlcbcomdkaaGreatDoorV10
set_option linter.unusedVariables false
set_option linter.unusedSimpArgs false
set_option linter.unusedSimpArgs false
namespace Go.Proofs.By
open Go.RowKit Go.Proofs.Heap
open Go.Proofs.Rm (TurnRow Turn Room RoomAt Inv of of_some of_lt Of_any Source_any)
theorem step_loadrow {P:Program} {ops:Array Oper} {o:Oper} {a:Act} {w:World} {K:Act→World→Prop} {Q:Exit→Act→World→Prop} {E':Prop} (hgd:o.guard=none) (ty:TypeId) (x:Operand) (ho:o.op = .load ty x)
  (g:Nat) (hx:a.eval x = .pointer (some ⟨g,0,none⟩)) (t:TypeId) (cs:Array Value) (fr:Nat × Nat) (d:TypeDesc) (hg:w.heap[g]?=some (.cells cs t fr))
  (hu:P.underlying ty=some d) (hd:(match d with | .struct _ | .array _ _=>true|_=>false)=true) (hi:(P.info? ty).map (·.size)=some cs.size)
  (h:K (a.put o.dst (.agg cs)) w):if Region.wanted o (yielded ops a.tmps)=true then Oper.wp P o a w K Q else E':=by
 have hw:Region.wanted o (yielded ops a.tmps)=true:=by simp [Region.wanted,hgd]
 rw [if_pos hw]
 exact wp_load_row ty x ho g hx t cs fr d hg hu hd hi h
theorem tk_size {w:World} {cs:List Value} {T:Taken} (h:TakenIn w cs T):cs.toArray.size=22:=by rw [List.size_toArray];exact h.size
theorem tk_hold {w:World} {cs:List Value} {T:Taken} (h:TakenIn w cs T):(Yz2a:Array Value).size=cs.toArray.size:=by rw [tk_size h];rfl
theorem tk_info {w:World} {cs:List Value} {T:Taken} (h:TakenIn w cs T):(Tryz.prog.info? 100).map (·.size)=some cs.toArray.size:=by rw [tk_size h];kernel_rfl
theorem TakenIn.setRow {w:World} {cs:List Value} {T:Taken} (h:TakenIn w cs T) {g:Nat} {c:Array Value} {f:Nat × Nat} (hg:w.heap[g]?=some (.cells c 100 f)) (c':Array Value):TakenIn (w.setRow g c') cs T:=
 h.fr (fr_setRow w g c') (fun k hk=>by have hk:k=g:=hk;subst hk;exact ⟨_,_,_,hg,by decide,by decide,by decide,by decide,by decide,by decide,by decide⟩)
set_option maxRecDepth 100000 in
set_option maxHeartbeats 2000000 in
theorem media_any (g b:Nat) (R:Room) (ep peer:Int) (P:Pkt) (d:Dsc) (cv ev pv:Value) (w:World) (hD:DoorAt w g b R ep) (hI:Inv R) (hl:∀ n,(R.src n).ss.length≤1000000) (hP:PktR w P cv ev pv) :
  Calls Tryz.prog 106 #[.pointer (some ⟨g,0,none⟩),.int .i64 peer,.agg (medCells P d cv ev pv).toArray] w fun e w'=>(∃ cs:List Value,e = .returned (.agg cs.toArray)∧TakenIn w' cs (mediaT R ep peer P d))∧Below w.heap.size w w':=by
 obtain ⟨⟨ca,cc,rfl⟩,⟨ea,ec,rfl⟩,⟨pa,pc,rfl⟩⟩:=hP.form
 obtain ⟨n,O2,O3,hO⟩:∃ (n:Nat) (O2:Int) (O3:Bool),of R P.ssrc=((n:Int),O2,O3):=⟨(of R P.ssrc).1.toNat,(of R P.ssrc).2.1,(of R P.ssrc).2.2,by rw [Int.toNat_of_nonneg (of_lt R P.ssrc).1]⟩
 have HX:Hid (mediaT R ep peer P d=if (O3 && decide ((R.src n).own=peer)) && decide (O2=d.layer) then {noTaken with adm:=⟨1,(n:Int),ep,0⟩,pkt:=P,dsc:=d} else refusedT 5 0):=by
  show mediaT R ep peer P d=_
  unfold mediaT owned
  rw [hO]
  rfl
 have HTH:Hid (O3=true→(R.src n).there=true):=by
  show _→_
  intro h3
  obtain ⟨m,_,h1,_,h2⟩:=of_some (R:=R) (x:=P.ssrc) (by rw [hO];exact h3)
  rw [hO] at h2
  have h4:(n:Int)=(m:Int):=congrArg (·.1) h2
  have h4:n=m:=by omega
  rw [h4];exact h1
 generalize mediaT R ep peer P d=X at *
 have hgl:=hD.cells.2.2.2
 have hxb:((w.alloc (.cells #[.bool P.marker,.int .i64 P.type,.int .u16 P.seq,.int .u32 P.time,.int .u32 P.ssrc,.slice ca P.csrc.length cc,.bool P.hasExt,.int .u16 P.profile,.slice ea P.ext.length ec,.slice pa P.payload.length pc,.int .i64 P.pad,.int .i64 d.layer,.bool d.key,.bool d.start,.int .u16 d.frame] 97)).alloc (.cells Yz2a 100)).heap[w.heap.size]?=some (.cells #[.bool P.marker,.int .i64 P.type,.int .u16 P.seq,.int .u32 P.time,.int .u32 P.ssrc,.slice ca P.csrc.length cc,.bool P.hasExt,.int .u16 P.profile,.slice ea P.ext.length ec,.slice pa P.payload.length pc,.int .i64 P.pad,.int .i64 d.layer,.bool d.key,.bool d.start,.int .u16 d.frame] 97 (0,0)):=by
  rw [(below_alloc _ _).block _ Yo11]
  exact heap_new w _
 have hz:((w.alloc (.cells #[.bool P.marker,.int .i64 P.type,.int .u16 P.seq,.int .u32 P.time,.int .u32 P.ssrc,.slice ca P.csrc.length cc,.bool P.hasExt,.int .u16 P.profile,.slice ea P.ext.length ec,.slice pa P.payload.length pc,.int .i64 P.pad,.int .i64 d.layer,.bool d.key,.bool d.start,.int .u16 d.frame] 97)).alloc (.cells Yz2a 100)).heap[w.heap.size+1]?=some (.cells Yz2a 100 (0,0)):=by
  have h:=heap_new (w.alloc (.cells #[.bool P.marker,.int .i64 P.type,.int .u16 P.seq,.int .u32 P.time,.int .u32 P.ssrc,.slice ca P.csrc.length cc,.bool P.hasExt,.int .u16 P.profile,.slice ea P.ext.length ec,.slice pa P.payload.length pc,.int .i64 P.pad,.int .i64 d.layer,.bool d.key,.bool d.start,.int .u16 d.frame] 97)) (.cells Yz2a 100)
  have e:(w.alloc (.cells #[.bool P.marker,.int .i64 P.type,.int .u16 P.seq,.int .u32 P.time,.int .u32 P.ssrc,.slice ca P.csrc.length cc,.bool P.hasExt,.int .u16 P.profile,.slice ea P.ext.length ec,.slice pa P.payload.length pc,.int .i64 P.pad,.int .i64 d.layer,.bool d.key,.bool d.start,.int .u16 d.frame] 97)).heap.size=w.heap.size+1:=by show (w.heap.push _).size=_;rw [Array.size_push]
  rw [e] at h
  exact h
 have hbw:Below w.heap.size w ((w.alloc (.cells #[.bool P.marker,.int .i64 P.type,.int .u16 P.seq,.int .u32 P.time,.int .u32 P.ssrc,.slice ca P.csrc.length cc,.bool P.hasExt,.int .u16 P.profile,.slice ea P.ext.length ec,.slice pa P.payload.length pc,.int .i64 P.pad,.int .i64 d.layer,.bool d.key,.bool d.start,.int .u16 d.frame] 97)).alloc (.cells Yz2a 100)):=bel_alloc (below_alloc w _) (Nat.le_refl _) _
 have HD1:Hid (DoorAt ((w.alloc (.cells #[.bool P.marker,.int .i64 P.type,.int .u16 P.seq,.int .u32 P.time,.int .u32 P.ssrc,.slice ca P.csrc.length cc,.bool P.hasExt,.int .u16 P.profile,.slice ea P.ext.length ec,.slice pa P.payload.length pc,.int .i64 P.pad,.int .i64 d.layer,.bool d.key,.bool d.start,.int .u16 d.frame] 97)).alloc (.cells Yz2a 100)) g b R ep):=hD.below hbw
 have HP1:Hid (PktR ((w.alloc (.cells #[.bool P.marker,.int .i64 P.type,.int .u16 P.seq,.int .u32 P.time,.int .u32 P.ssrc,.slice ca P.csrc.length cc,.bool P.hasExt,.int .u16 P.profile,.slice ea P.ext.length ec,.slice pa P.payload.length pc,.int .i64 P.pad,.int .i64 d.layer,.bool d.key,.bool d.start,.int .u16 d.frame] 97)).alloc (.cells Yz2a 100)) P (.slice ca P.csrc.length cc) (.slice ea P.ext.length ec) (.slice pa P.payload.length pc)):=hP.below hbw
 have HXB:=Lib.hid hxb
 have HZ:=Lib.hid hz
 have HBW:=Lib.hid hbw
 clear hD hP hxb hz hbw
 dsimp only [medCells]
 go_enter Tryz.func106,Tryz.ntmps106
 go_upto_region 1 with fail
 generalize ((w.alloc (.cells #[.bool P.marker,.int .i64 P.type,.int .u16 P.seq,.int .u32 P.time,.int .u32 P.ssrc,.slice ca P.csrc.length cc,.bool P.hasExt,.int .u16 P.profile,.slice ea P.ext.length ec,.slice pa P.payload.length pc,.int .i64 P.pad,.int .i64 d.layer,.bool d.key,.bool d.start,.int .u16 d.frame] 97)).alloc (.cells Yz2a 100))=w1 at *
 have COF:Hid (Calls Tryz.prog 127 #[.pointer (some ⟨b,0,none⟩),.int .u32 P.ssrc] w1.drew fun e w'=>e = .returned (.tuple #[.int .i64 (n:Int),.int .i64 O2,.bool O3])∧Below w1.heap.size w1 w'):=by
  have h:=Of_any b R P.ssrc w1.drew (HD1.out.room.below (Below.refl _ _).drew)
  rw [hO] at h
  exact h.mono (fun _ _ ⟨q1,q2⟩=>⟨q1,(Below.refl _ _).drew.trans q2⟩)
 have KEEP:Hid (∀ w',Below w1.heap.size w1 w'→w'.cell? ⟨g,0,none⟩=some (.pointer (some ⟨b,0,none⟩))∧w'.cell? ⟨w.heap.size,4,none⟩=some (.int .u32 P.ssrc)∧Below w1.heap.size w1 w'):=fun w' h=>
  ⟨(HD1.out.below h).cells.1,by rw [cell_of ((h.block w.heap.size (hp_lt HXB.out)).trans HXB.out) 4];rfl,h⟩
 clear hO
 refine wp_region_noPanic ?_
 refine wp_region_held_drew (S:=(fun w'=>w'.cell? ⟨g,0,none⟩=some (.pointer (some ⟨b,0,none⟩))∧w'.cell? ⟨w.heap.size,4,none⟩=some (.int .u32 P.ssrc)∧Below w1.heap.size w1 w')) Yo3 ?_ (fun hHeld0=>?_)
 ·(try dsimp only)
  exact KEEP.out _ (Below.refl _ _).drew
 refine YA 0 (h:=YA 1 (h:=YA 2 (h:=YA 3 (h:=YA 4 (h:=YA 5 (h:=YA 6 (h:=?_)))))))
 refine YHR 7 (h:=fun K hK=>?_)
 go_simp
 refine COF.out.mono ?_
 rintro e w2 ⟨rfl,hb2⟩
 have HB2:=Lib.hid hb2
 clear hb2
 go_wp2_with fail
 refine hK.out _ _ ?_ (fun hHeld1=>?_)
 ·(try dsimp only)
  exact KEEP.out _ HB2.out
 clear hK K
 try simp only [AnyT.pt]
 refine YA 8 (h:=YA 9 (h:=YA 10 (h:=YA 11 (h:=YA 12 (h:=YA 13 (h:=YA 14 (h:=?_)))))))
 refine wpAnyH_done Yo3 ?_ _
 refine NoPanic.normal ?_
 have CSR:Hid (Calls Tryz.prog 81 #[.pointer (some ⟨b,0,none⟩),.int .i64 (n:Int)] w2 fun e w'=>(∃ (nm ow:Int) (a:Option Addr) (k c:Nat) (mu has:Bool),e = .returned (.tuple #[.agg #[.int .i64 nm,.int .i64 ow,.slice a k c,.bool mu],.bool has])∧has=(R.src n).there∧(has=true→ow=(R.src n).own))∧Below w2.heap.size w2 w'):=Source_any b R n w2 (HD1.out.room.below HB2.out) hI hl
 have cg2:=(KEEP.out w2 HB2.out).1
 clear hHeld0 hHeld1 COF KEEP
 go_upto_region 3 with (go_at_call 81;refine CSR.out.mono ?_;rintro e w3 ⟨⟨nm,ow,a,k,c,mu,has,rfl,hhas,how⟩,hb3⟩;have HB3:=Lib.hid (HB2.out.trans (hb3.mono HB2.out.size));have HH:=Lib.hid hhas;have HOW:=Lib.hid how;clear hb3 hhas how)
 have HB4:Hid (Below w1.heap.size w1 (w3.alloc (.cells #[.int .i64 nm,.int .i64 ow,.slice a k c,.bool mu] 108))):=bel_alloc HB3.out (Nat.le_refl _) _
 have cl:=cell_of ((HB3.out.block w.heap.size (hp_lt HXB.out)).trans HXB.out) 11
 simp only [List.getElem?_toArray,List.getElem?_cons_zero,List.getElem?_cons_succ] at cl
 have hxl:w.heap.size<w3.heap.size:=Nat.lt_of_lt_of_le (hp_lt HXB.out) HB3.out.size
 clear CSR HB2 cg2
 cases O3 with
 | false=>
  rw [if_neg (by simp)] at HX
  exact Yx18
 | true=>
  have how:ow=(R.src n).own:=HOW.out (by rw [HH.out];exact HTH.out rfl)
  subst how
  clear HOW HH HTH
  by_cases hp:(R.src n).own=peer
  ·by_cases hly:O2=d.layer
   ·subst hp
    subst hly
    rw [if_pos (by simp)] at HX
    go_upto_region 5 with fail
    clear cl hxl
    generalize w3.alloc (.cells #[.int .i64 nm,.int .i64 (R.src n).own,.slice a k c,.bool mu] 108)=w4 at *
    have cg4:=(HD1.out.below HB4.out).cells.2.1
    have hx4:=(HB4.out.block w.heap.size (hp_lt HXB.out)).trans HXB.out
    have hz4:=(HB4.out.block (w.heap.size+1) (hp_lt HZ.out)).trans HZ.out
    have HP4:=Lib.hid (HP1.out.below HB4.out)
    have hbw4:Below w.heap.size w w4:=HBW.out.trans (HB4.out.mono HBW.out.size)
    clear HD1 HP1 HXB HZ HB4 HB3 HBW hI hl
    refine wp_region_noPanic ?_
    refine wp_region_held_drew (S:=(fun w'=>w'.cell? ⟨g,1,none⟩=some (.int .i64 ep))) Yo3 ?_ (fun hHeld0=>?_)
    ·(try dsimp only)
     exact cg4
    refine YA 0 (h:=YA 1 (h:=YA 2 (h:=YA 3 (h:=YA 4 (h:=YA 5 (h:=?_))))))
    refine YHR 6 (h:=fun K hK=>?_)
    refine step_loadrow (by rfl) 97 (.tmp 5) (by rfl) w.heap.size (by rfl) 97 #[.bool P.marker,.int .i64 P.type,.int .u16 P.seq,.int .u32 P.time,.int .u32 P.ssrc,.slice ca P.csrc.length cc,.bool P.hasExt,.int .u16 P.profile,.slice ea P.ext.length ec,.slice pa P.payload.length pc,.int .i64 P.pad,.int .i64 d.layer,.bool d.key,.bool d.start,.int .u16 d.frame] (0,0) _ hx4 Tryz.underlying97 rfl Yo3 ?_
    refine hK.out _ _ ?_ (fun hHeld1=>?_)
    ·(try dsimp only)
     first|exact cg4|exact cg5
    clear hK K
    try simp only [AnyT.pt]
    refine YA 7 (h:=?_)
    refine YHR 8 (h:=fun K hK=>?_)
    refine step_row (by rfl) 100 (.tmp 6) (.tmp 56) (by rfl) (by rfl) (w.heap.size+1) #[.int .i64 1,.int .i64 (n:Int),.int .i64 ep,.int .i64 0,.bool P.marker,.int .i64 P.type,.int .u16 P.seq,.int .u32 P.time,.int .u32 P.ssrc,.slice ca P.csrc.length cc,.bool P.hasExt,.int .u16 P.profile,.slice ea P.ext.length ec,.slice pa P.payload.length pc,.int .i64 P.pad,.int .i64 d.layer,.bool d.key,.bool d.start,.int .u16 d.frame,.slice none 0 0,.slice none 0 0,.int .i64 0] (by rfl) (by rfl) 100 _ hz4 Yo3 Yo3 Yo3 ?_
    have cg5:(w4.setRow (w.heap.size+1) #[.int .i64 1,.int .i64 (n:Int),.int .i64 ep,.int .i64 0,.bool P.marker,.int .i64 P.type,.int .u16 P.seq,.int .u32 P.time,.int .u32 P.ssrc,.slice ca P.csrc.length cc,.bool P.hasExt,.int .u16 P.profile,.slice ea P.ext.length ec,.slice pa P.payload.length pc,.int .i64 P.pad,.int .i64 d.layer,.bool d.key,.bool d.start,.int .u16 d.frame,.slice none 0 0,.slice none 0 0,.int .i64 0]).cell? ⟨g,1,none⟩=some (.int .i64 ep):=by rw [World.cell?_of_block (w:=w4) (setRow_other w4 _ g _ (by omega))];exact cg4
    refine hK.out _ _ ?_ (fun hHeld2=>?_)
    ·(try dsimp only)
     first|exact cg4|exact cg5
    clear hK K
    try simp only [AnyT.pt]
    refine wpAnyH_done Yo3 ?_ _
    refine NoPanic.normal ?_
    go_wp2_with fail
    refine bodyPost_ret (v:= .agg #[.int .i64 1,.int .i64 (n:Int),.int .i64 ep,.int .i64 0,.bool P.marker,.int .i64 P.type,.int .u16 P.seq,.int .u32 P.time,.int .u32 P.ssrc,.slice ca P.csrc.length cc,.bool P.hasExt,.int .u16 P.profile,.slice ea P.ext.length ec,.slice pa P.payload.length pc,.int .i64 P.pad,.int .i64 d.layer,.bool d.key,.bool d.start,.int .u16 d.frame,.slice none 0 0,.slice none 0 0,.int .i64 0]) ?_ rfl ?_
    ·exact results_cell_row (by rfl) _ _ (w.heap.size+1) 100 #[.int .i64 1,.int .i64 (n:Int),.int .i64 ep,.int .i64 0,.bool P.marker,.int .i64 P.type,.int .u16 P.seq,.int .u32 P.time,.int .u32 P.ssrc,.slice ca P.csrc.length cc,.bool P.hasExt,.int .u16 P.profile,.slice ea P.ext.length ec,.slice pa P.payload.length pc,.int .i64 P.pad,.int .i64 d.layer,.bool d.key,.bool d.start,.int .u16 d.frame,.slice none 0 0,.slice none 0 0,.int .i64 0] (0,0) _ (by rfl) (setRow_heap w4.drew _ _ _ _ _ hz4) Tryz.underlying100 rfl Yo3
    refine ⟨⟨[.int .i64 1,.int .i64 (n:Int),.int .i64 ep,.int .i64 0,.bool P.marker,.int .i64 P.type,.int .u16 P.seq,.int .u32 P.time,.int .u32 P.ssrc,.slice ca P.csrc.length cc,.bool P.hasExt,.int .u16 P.profile,.slice ea P.ext.length ec,.slice pa P.payload.length pc,.int .i64 P.pad,.int .i64 d.layer,.bool d.key,.bool d.start,.int .u16 d.frame,.slice none 0 0,.slice none 0 0,.int .i64 0],rfl,?_⟩,below_setRow hbw4.drew (Nat.le_succ _) _⟩
    rw [HX.out]
    have HT:TakenIn w4.drew [.int .i64 1,.int .i64 (n:Int),.int .i64 ep,.int .i64 0,.bool P.marker,.int .i64 P.type,.int .u16 P.seq,.int .u32 P.time,.int .u32 P.ssrc,.slice ca P.csrc.length cc,.bool P.hasExt,.int .u16 P.profile,.slice ea P.ext.length ec,.slice pa P.payload.length pc,.int .i64 P.pad,.int .i64 d.layer,.bool d.key,.bool d.start,.int .u16 d.frame,.slice none 0 0,.slice none 0 0,.int .i64 0] {noTaken with adm:=⟨1,(n:Int),ep,0⟩,pkt:=P,dsc:=d}:=⟨_,_,_,_,_,rfl,HP4.out.below (Below.refl _ _).drew,ItmsRow.nil _,Row.nil _ _⟩
    exact HT.setRow hz4 _
   ·rw [if_neg (by simp [hly])] at HX
    have hb:(O2 != d.layer)=true:=by rw [bne_iff_ne];exact hly
    have hb2:(O2 == d.layer)=false:=by rw [beq_eq_false_iff_ne];exact hly
    subst hp
    exact Yx18
  ·rw [if_neg (by simp [hp])] at HX
   have hb:((R.src n).own != peer)=true:=by rw [bne_iff_ne];exact hp
   have hb2:((R.src n).own == peer)=false:=by rw [beq_eq_false_iff_ne];exact hp
   exact Yx18
end Go.Proofs.By
set_option linter.unusedSimpArgs false
namespace Go.Proofs.By
open Go.RowKit Go.Proofs.Heap
theorem and_60_all:∀ x:Fin 256,bits .and .u8 ((x.val:Nat):Int) 60=((x.val / 4 % 16*4:Nat):Int):=by decide +kernel
theorem and_60 (n:Nat) (hn:n<256):bits .and .u8 (n:Int) 60=((n / 4 % 16*4:Nat):Int):=and_60_all ⟨n,hn⟩
set_option maxRecDepth 100000 in
set_option maxHeartbeats 2000000 in
theorem DescGet_any (v:Value) (b:List UInt8) (w:World) (hv:BRow w v b) :
  Calls Tryz.prog 126 #[v] w fun e w'=>e = .returned (.tuple #[.agg #[.int .i64 (descGet b).1.layer,.bool (descGet b).1.key,.bool (descGet b).1.start,.int .u16 (descGet b).1.frame],.int .i64 (descGet b).2])∧Below w.heap.size w w':=by
 have hlen:=hv.len
 have HV:Hid (∀ w',Below w.heap.size w w'→BRow w' v b):=fun w' h=>hv.below h
 have HE:Hid (descGet b=if b.length<4 then (noDsc,2) else if at8 b 0 / 4 % 16≠0∨at8 b 0 % 4=3∨at8 b 1≠90 then (noDsc,1) else (⟨(at8 b 0 % 4:Nat),decide (128≤at8 b 0),decide (at8 b 0 / 64 % 2=1),get b 2 2⟩,0)):=rfl
 obtain ⟨a,c,rfl,hcc,-⟩:=id hv
 clear hv
 have hba:=below_alloc w (.cells #[.int .i64 0,.bool false,.bool false,.int .u16 0] 81)
 have HVA:=Lib.hid (HV.out _ hba)
 generalize descGet b=X at *
 by_cases h1:b.length<4
 ·obtain rfl:X=(noDsc,2):=by rw [HE.out,if_pos h1]
  clear HE HV HVA
  go_enter Tryz.func126,Tryz.ntmps126
  go_wp2
  exact bodyPost_ret (v:= .tuple #[.agg #[.int .i64 0,.bool false,.bool false,.int .u16 0],.int .i64 2]) (by simp [results,Tryz.results126,go_sem]) rfl ⟨rfl,hba⟩
 obtain ⟨g,off,cap,e1,_,_,hc⟩:=b_at (HV.out w (Below.refl _ _)) (by omega)
 cases e1
 obtain ⟨_,_,_,e2,_,_,hca⟩:=b_at HVA.out (by omega)
 cases e2
 have d0:(w.alloc (.cells #[.int .i64 0,.bool false,.bool false,.int .u16 0] 81)).cell? ⟨g,off,none⟩=some (.int .u8 (at8 b 0:Int)):=hca 0 (by omega)
 have d1:=hca 1 (by omega)
 have l1:decide ((b.length:Int)<4)=false:=decide_eq_false (by omega)
 have hx0:=at8_256 b 0
 have hx1:=at8_256 b 1
 have a60:=and_60 (at8 b 0) hx0
 have a3:=and_3 (at8 b 0) hx0
 clear hc hca
 by_cases h2:at8 b 0 / 4 % 16≠0∨at8 b 0 % 4=3∨at8 b 1≠90
 ·obtain rfl:X=(noDsc,1):=by rw [HE.out,if_neg h1,if_pos h2]
  clear HE HV HVA
  by_cases h3:at8 b 0 / 4 % 16≠0
  ·have q3:(((at8 b 0 / 4 % 16*4:Nat):Int) != 0)=true:=by rw [bne_iff_ne];omega
   clear h2 h3
   generalize at8 b 0 / 4 % 16*4=y at *
   exact Yx68
  ·have hz:at8 b 0 / 4 % 16*4=0:=by omega
   rw [hz] at a60
   by_cases h4:at8 b 0 % 4=3
   ·rw [h4] at a3
    clear h2 h3 h4 hz
    exact Yx68
   ·have q4:(((at8 b 0 % 4:Nat):Int) == 3)=false:=by rw [beq_eq_false_iff_ne];omega
    have q5:(((at8 b 1:Nat):Int) != 90)=true:=by rw [bne_iff_ne];omega
    clear h2 h3 h4 hz
    generalize at8 b 0 % 4=y at *
    exact Yx68
 ·have CG:=Get_any _ b 2 2 _ HVA.out
  have hn:get b 2 2<65536:=get_lt b 2 2 2 (by decide)
  have hz:at8 b 0 / 4 % 16*4=0:=by omega
  rw [hz] at a60
  have q4:(((at8 b 0 % 4:Nat):Int) == 3)=false:=by rw [beq_eq_false_iff_ne];omega
  have q5:(((at8 b 1:Nat):Int) != 90)=false:=by rw [bne_eq_false_iff_eq];omega
  have a128:=and_128 (at8 b 0) hx0
  have a64:=and_64 (at8 b 0) hx0
  obtain rfl:X=(⟨(at8 b 0 % 4:Nat),(((at8 b 0 / 128 % 2*128:Nat):Int) != 0),(((at8 b 0 / 64 % 2*64:Nat):Int) != 0),get b 2 2⟩,0):=by
   rw [HE.out,if_neg h1,if_neg h2]
   congr 2
   ·rw [Bool.eq_iff_iff,decide_eq_true_eq,bne_iff_ne];omega
   ·rw [Bool.eq_iff_iff,decide_eq_true_eq,bne_iff_ne];omega
  dsimp only
  have HCG:=Lib.hid CG
  have KEEP:Hid (∀ w',Below w.heap.size w w'→w'.cell? ⟨g,off,none⟩=some (.int .u8 (at8 b 0:Int))∧Below w.heap.size w w'):=fun w' h=>by
   obtain ⟨_,_,_,e,_,_,hc⟩:=b_at (HV.out w' h) (by omega)
   cases e
   exact ⟨hc 0 (by omega),h⟩
  clear HE HV HVA h2 hz CG
  have hy4:at8 b 0 % 4<4:=by omega
  have hbI:(0:Int)<(b.length:Int):=by omega
  have hbN:0<b.length:=by omega
  have hbZ:¬b.length=0:=by omega
  generalize get b 2 2=n at *
  generalize at8 b 0 / 128 % 2*128=y1 at *
  generalize at8 b 0 / 64 % 2*64=y2 at *
  generalize at8 b 0 % 4=y at *
  generalize b.length=N at *
  have hnw:IntKind.u16.wrap (n:Int)=(n:Int):=by rw [IntKind.wrap_u16];omega
  have hyw:IntKind.i64.wrap (y:Int)=(y:Int):=IntWalk.i64_in _ (by omega)
  go_enter Tryz.func126,Tryz.ntmps126
  go_wp2_with (go_at_call 155;refine HCG.out.mono ?_;rintro e w' ⟨rfl,rfl⟩)
  go_region_held3 (fun w'=>w'.cell? ⟨g,off,none⟩=some (.int .u8 (at8 b 0:Int))∧Below w.heap.size w w') (first|exact KEEP.out _ (by first|exact (below_alloc w _).drew|with_reducible assumption|exact Below.drew Yo5|exact Below.setCell Yo5 (by simp) _|exact Below.setCell (Below.drew Yo5) (by simp) _)|go_keep) (first|fail)
  go_wp2
  exact bodyPost_ret (v:= .tuple #[.agg #[.int .i64 y,.bool ((y1:Int) != 0),.bool ((y2:Int) != 0),.int .u16 n],.int .i64 0]) (by simp [results,Tryz.results126,go_sem,hnw]) rfl ⟨rfl,(below_alloc w _).drew⟩
end Go.Proofs.By
set_option linter.unusedSimpArgs false
namespace Go.Proofs.By
open Go.RowKit Go.Proofs.Heap
theorem rtpGet_any (v:Value) (b:List UInt8) (w:World) (hv:BRow w v b) :
  Calls Tryz.prog 125 #[v] w fun e w'=>(∃ a,e = .returned (.tuple #[a,.int .i64 (rtpGet b).2])∧PktIn w' a (rtpGet b).1)∧Below w.heap.size w w':=by
 by_cases h:(looks b).2=0
 ·exact rtpGet_ok v b w hv h
 ·exact rtpGet_err v b w hv h
def siftQ (b:List UInt8):Ev × Int:=if (rtpGet b).2≠0 then (.none,(rtpGet b).2) else if (descGet (rtpGet b).1.payload).2≠0 then (.none,(descGet (rtpGet b).1.payload).2) else (.media (rtpGet b).1 (descGet (rtpGet b).1.payload).1,0)
theorem sift_plain {b:List UInt8} (h1:¬512<b.length) (h2:¬b.length<2) (h3:¬(192≤at8 b 1∧at8 b 1≤223)):sift b=siftQ b:=by
 unfold sift siftQ
 rw [if_neg h1,if_neg h2,if_neg h3]
set_option maxRecDepth 100000 in
set_option maxHeartbeats 2000000 in
theorem siftOf_plain (v:Value) (b:List UInt8) (w:World) (hv:BRow w v b) (h3:¬(192≤at8 b 1∧at8 b 1≤223)) :
  Calls Tryz.prog 105 #[v] w fun e w'=>(∃ a,e = .returned (.tuple #[a,.int .i64 (sift b).2])∧EvIn w' a (sift b).1)∧Below w.heap.size w w':=by
 have hlen:=hv.len
 by_cases h1:512<b.length
 ·have HX:Hid (sift b=(.none,5)):=by show _=_;unfold sift;rw [if_pos h1]
  exact Yx74
 by_cases h2:b.length<2
 ·have HX:Hid (sift b=(.none,2)):=by show _=_;unfold sift;rw [if_neg h1,if_pos h2]
  exact Yx74
 rw [sift_plain h1 h2 h3]
 have HC:=Lib.hid (rtpGet_any v b w hv)
 have HX:Hid (siftQ b=if (rtpGet b).2≠0 then (.none,(rtpGet b).2) else if (descGet (rtpGet b).1.payload).2≠0 then (.none,(descGet (rtpGet b).1.payload).2) else (.media (rtpGet b).1 (descGet (rtpGet b).1.payload).1,0)):=rfl
 obtain ⟨g,off,c,rfl,hcc,hmx,hbl⟩:=b_at hv (by omega)
 have d1:=hbl 1 (by omega)
 clear hbl hv hcc hmx
 have hbI:(1:Int)<(b.length:Int):=by omega
 have hbN:1<b.length:=by omega
 generalize siftQ b=X at *
 generalize rtpGet b=Y at *
 obtain ⟨P,er⟩:=Y
 dsimp only at HC HX
 have hmk:=fun (x:Value) (w:World)=>run_makeInterface (P:=Tryz.prog) w 97 x Yo3
 have hk:at8 b 1<192∨223<at8 b 1:=by omega
 generalize at8 b 1=kd at *
 go_enter Tryz.func105,Tryz.ntmps105
 rcases hk with hk|hk
 ·have l1:decide ((192:Int)≤(kd:Int))=false:=decide_eq_false (by omega)
  exact Yx10
 ·have l1:decide ((192:Int)≤(kd:Int))=true:=decide_eq_true (by omega)
  have l2:decide ((kd:Int)≤223)=false:=decide_eq_false (by omega)
  exact Yx10
end Go.Proofs.By
set_option linter.unusedSimpArgs false
namespace Go.Proofs.By
open Go.RowKit Go.Proofs.Heap
open Go.Proofs.Rm (TurnRow Turn Room RoomAt Inv joined Joined_any)
theorem run_typeAssert_same {P:Program} (w:World) (t xt:TypeId) (v:Value) (d:TypeDesc) (hu:P.underlying t=some d) (hd:(match d with | .interface _=>false|_=>true)=true):(Instr.typeAssert (.iface t v) xt t true).run P w = .ok (.tuple #[v,.bool true]) w:=by
 unfold Instr.typeAssert
 simp only [Sem.run_bind,run_underlying hu w,Result.andThen_ok]
 cases d <;> simp_all
theorem sift_media {b:List UInt8} (h3:¬(192≤at8 b 1∧at8 b 1≤223)) (h:(sift b).2=0):∃ p d,(sift b).1 = .media p d:=by
 by_cases h1:512<b.length
 ·unfold sift at h;rw [if_pos h1] at h;cases h
 by_cases h2:b.length<2
 ·unfold sift at h;rw [if_neg h1,if_pos h2] at h;cases h
 rw [sift_plain h1 h2 h3] at h ⊢
 unfold siftQ at h ⊢
 by_cases h4:(rtpGet b).2≠0
 ·rw [if_pos h4] at h;exact absurd h h4
 rw [if_neg h4] at h ⊢
 by_cases h5:(descGet (rtpGet b).1.payload).2≠0
 ·rw [if_pos h5] at h;exact absurd h h5
 rw [if_neg h5]
 exact ⟨_,_,rfl⟩
set_option maxRecDepth 100000 in
set_option maxHeartbeats 2000000 in
theorem datagram_plain (g b:Nat) (R:Room) (ep kd peer src ly:Int) (nm:ByteArray) (sa ba:Option Addr) (sl sc bl bc:Nat) (l:List UInt8) (w:World) (hD:DoorAt w g b R ep) (hI:Inv R) (hl:∀ n,(R.src n).ss.length≤1000000) (hv:BRow w (.slice ba bl bc) l) (h3:¬(192≤at8 l 1∧at8 l 1≤223)) :
  Calls Tryz.prog 76 #[.pointer (some ⟨g,0,none⟩),.agg #[.int .i64 kd,.int .i64 peer,.int .i64 src,.int .i64 ly,.string nm,.slice sa sl sc,.slice ba bl bc]] w fun e w'=>(∃ cs:List Value,e = .returned (.agg cs.toArray)∧TakenIn w' cs (datagram R ep peer l).1.1)∧DoorAt w' g b (datagram R ep peer l).1.2 (datagram R ep peer l).2∧Fr w.heap.size (fun k=>k=b∨k=g) w w':=by
 have HX:Hid (datagram R ep peer l=if (sift l).2≠0 then ((refusedT 3 (sift l).2,R),ep) else if !joined R peer then ((refusedT 4 0,R),ep) else match (sift l).1 with
  | .media p d=>((mediaT R ep peer p d,R),ep)
  | .feedback l=>((feedT (ep+1) l (itemsDo peer l R).1.1 (itemsDo peer l R).2,(itemsDo peer l R).1.2),ep+1)
  | .none=>((feedT (ep+1) [] [] 0,R),ep+1)):=rfl
 have HSM:=Lib.hid (sift_media (b:=l) h3)
 have hgl:=hD.cells.2.2.2
 have hxb:((w.alloc (.cells #[.int .i64 kd,.int .i64 peer,.int .i64 src,.int .i64 ly,.string nm,.slice sa sl sc,.slice ba bl bc] 32)).alloc (.cells Yz2a 100)).heap[w.heap.size]?=some (.cells #[.int .i64 kd,.int .i64 peer,.int .i64 src,.int .i64 ly,.string nm,.slice sa sl sc,.slice ba bl bc] 32 (0,0)):=by
  rw [(below_alloc _ _).block _ Yo11]
  exact heap_new w _
 have hz:((w.alloc (.cells #[.int .i64 kd,.int .i64 peer,.int .i64 src,.int .i64 ly,.string nm,.slice sa sl sc,.slice ba bl bc] 32)).alloc (.cells Yz2a 100)).heap[w.heap.size+1]?=some (.cells Yz2a 100 (0,0)):=by
  exact Yx49
 have hbw:Below w.heap.size w ((w.alloc (.cells #[.int .i64 kd,.int .i64 peer,.int .i64 src,.int .i64 ly,.string nm,.slice sa sl sc,.slice ba bl bc] 32)).alloc (.cells Yz2a 100)):=bel_alloc (below_alloc w _) (Nat.le_refl _) _
 have HD0:=Lib.hid hD
 have HD1:Hid (DoorAt ((w.alloc (.cells #[.int .i64 kd,.int .i64 peer,.int .i64 src,.int .i64 ly,.string nm,.slice sa sl sc,.slice ba bl bc] 32)).alloc (.cells Yz2a 100)) g b R ep):=hD.below hbw
 have CS:=Lib.hid (siftOf_plain _ l ((w.alloc (.cells #[.int .i64 kd,.int .i64 peer,.int .i64 src,.int .i64 ly,.string nm,.slice sa sl sc,.slice ba bl bc] 32)).alloc (.cells Yz2a 100)) (hv.below hbw) h3)
 have HXB:=Lib.hid hxb
 have HZ:=Lib.hid hz
 have HBW:=Lib.hid hbw
 clear hD hv hxb hz hbw h3
 generalize datagram R ep peer l=X at *
 generalize sift l=Y at *
 obtain ⟨ev,er⟩:=Y
 dsimp only at HX HSM CS
 go_enter Tryz.func76,Tryz.ntmps76
 go_upto_region 2 with (go_at_call 105;refine CS.out.mono ?_;rintro e w2 ⟨⟨a,rfl,hev⟩,hb2⟩;have HEV:=Lib.hid hev;have HB2:=Lib.hid hb2;clear hev hb2)
 clear CS
 generalize ((w.alloc (.cells #[.int .i64 kd,.int .i64 peer,.int .i64 src,.int .i64 ly,.string nm,.slice sa sl sc,.slice ba bl bc] 32)).alloc (.cells Yz2a 100))=w1 at *
 have KEEP:Hid (∀ w',Below w1.heap.size w1 w'→w'.cell? ⟨g,0,none⟩=some (.pointer (some ⟨b,0,none⟩))∧w'.cell? ⟨w.heap.size,1,none⟩=some (.int .i64 peer)):=fun w' h=>
  ⟨(HD1.out.below h).cells.1,by rw [cell_of ((h.block w.heap.size (hp_lt HXB.out)).trans HXB.out) 1];rfl⟩
 have HEND:Hid (∀ w' cs T,Below w.heap.size w w'→TakenIn w' cs T→X=((T,R),ep)→(∃ cs':List Value,Ending.returned (.agg cs.toArray) = .returned (.agg cs'.toArray)∧TakenIn w' cs' X.1.1)∧DoorAt w' g b X.1.2 X.2∧Fr w.heap.size (fun k=>k=b∨k=g) w w'):=fun w' cs T h1 h2 h3=>by
  rw [h3];exact ⟨⟨cs,rfl,h2⟩,HD0.out.below h1,Fr.of_below _ h1⟩
 by_cases her:er=0
 ·subst her
  rw [if_neg (by simp)] at HX
  obtain ⟨p,d,hpd⟩:=HSM.out rfl
  subst hpd
  dsimp only at HX
  have HJ:=Lib.hid (Joined_any b R peer w2.drew ((HD1.out.room.below HB2.out).below (Below.refl _ _).drew))
  go_upto_region 4 with fail
  refine wp_region_noPanic ?_
  refine wp_region_held_drew (S:=(fun w'=>w'.cell? ⟨g,0,none⟩=some (.pointer (some ⟨b,0,none⟩))∧w'.cell? ⟨w.heap.size,1,none⟩=some (.int .i64 peer))) Yo3 ?_ (fun hHeld0=>?_)
  ·(try dsimp only)
   exact KEEP.out _ HB2.out.drew
  refine YA 0 (h:=YA 1 (h:=YA 2 (h:=YA 3 (h:=YA 4 (h:=YA 5 (h:=?_))))))
  refine YHR 6 (h:=fun K hK=>?_)
  go_simp
  refine HJ.out.mono ?_
  rintro e w' ⟨rfl,rfl⟩
  go_wp2_with fail
  refine hK.out _ _ ?_ (fun hHeld1=>?_)
  ·(try dsimp only)
   exact KEEP.out _ HB2.out.drew
  clear hK K
  try simp only [AnyT.pt]
  refine YA 7 (h:=?_)
  refine wpAnyH_done Yo3 ?_ _
  refine NoPanic.normal ?_
  clear hHeld0 hHeld1 KEEP
  have HB3:Hid (Below w1.heap.size w1 w2.drew):=HB2.out.drew
  have HEV3:Hid (EvIn w2.drew a (.media p d)):=HEV.out.below (Below.refl _ _).drew
  clear HB2 HEV HJ
  generalize w2.drew=w3 at *
  clear w2
  by_cases hj:joined R peer=true
  ·rw [hj,if_neg (by simp)] at HX
   rw [hj]
   have hta:=fun (w:World) (v:Value)=>run_typeAssert_same (P:=Tryz.prog) w 97 188 v _ Tryz.underlying97 rfl
   obtain ⟨cv,ev,pv,ha,hP⟩:=HEV3.out
   obtain ⟨⟨ca,cc,hcv⟩,⟨ea,ec,hevv⟩,⟨pa,pc,hpv⟩⟩:=hP.form
   subst hcv;subst hevv;subst hpv
   dsimp only [medCells] at ha
   subst ha
   have hxr:=heap_new w3 (.cells #[.bool p.marker,.int .i64 p.type,.int .u16 p.seq,.int .u32 p.time,.int .u32 p.ssrc,.slice ca p.csrc.length cc,.bool p.hasExt,.int .u16 p.profile,.slice ea p.ext.length ec,.slice pa p.payload.length pc,.int .i64 p.pad,.int .i64 d.layer,.bool d.key,.bool d.start,.int .u16 d.frame] 97)
   have HB4:Hid (Below w1.heap.size w1 (w3.alloc (.cells #[.bool p.marker,.int .i64 p.type,.int .u16 p.seq,.int .u32 p.time,.int .u32 p.ssrc,.slice ca p.csrc.length cc,.bool p.hasExt,.int .u16 p.profile,.slice ea p.ext.length ec,.slice pa p.payload.length pc,.int .i64 p.pad,.int .i64 d.layer,.bool d.key,.bool d.start,.int .u16 d.frame] 97))):=bel_alloc HB3.out (Nat.le_refl _) _
   have CM:=Lib.hid (media_any g b R ep peer p d _ _ _ (w3.alloc (.cells #[.bool p.marker,.int .i64 p.type,.int .u16 p.seq,.int .u32 p.time,.int .u32 p.ssrc,.slice ca p.csrc.length cc,.bool p.hasExt,.int .u16 p.profile,.slice ea p.ext.length ec,.slice pa p.payload.length pc,.int .i64 p.pad,.int .i64 d.layer,.bool d.key,.bool d.start,.int .u16 d.frame] 97)) (HD1.out.below HB4.out) hI hl (hP.below (below_alloc _ _)))
   have hx4:=cell_of ((HB3.out.block w.heap.size (hp_lt HXB.out)).trans HXB.out) 1
   simp only [List.getElem?_toArray,List.getElem?_cons_zero,List.getElem?_cons_succ] at hx4
   have hxl:w.heap.size<w3.heap.size:=Nat.lt_of_lt_of_le (hp_lt HXB.out) HB3.out.size
   clear HEV3 hP
   dsimp only [medCells] at CM
   go_wp2_with (first|(with_reducible refine load_at 97 (.tmp 7) rfl ?_;refine load_rowTo2 rfl 97 (.tmp 7) rfl w3.heap.size rfl 97 #[.bool p.marker,.int .i64 p.type,.int .u16 p.seq,.int .u32 p.time,.int .u32 p.ssrc,.slice ca p.csrc.length cc,.bool p.hasExt,.int .u16 p.profile,.slice ea p.ext.length ec,.slice pa p.payload.length pc,.int .i64 p.pad,.int .i64 d.layer,.bool d.key,.bool d.start,.int .u16 d.frame] (0,0) _ hxr Tryz.underlying97 rfl Yo3 ?_)|(go_at_call 106;refine CM.out.mono ?_;rintro e w5 ⟨⟨cs,rfl,htk⟩,hb5⟩;have HB5:=Lib.hid (HB4.out.trans (hb5.mono HB4.out.size));have hz5:=(HB5.out.block (w.heap.size+1) (hp_lt HZ.out)).trans HZ.out;have hi:=tk_info htk;have hold:=tk_hold htk;have hone:=htk.one;have HTK:=Lib.hid htk;clear htk hb5)|(with_reducible refine store_at 100 (.tmp 4) (.tmp 46) rfl ?_;refine store_rowTo2 rfl 100 (.tmp 4) (.tmp 46) rfl rfl (w.heap.size+1) cs.toArray rfl rfl 100 Yz2a hz5 hi hold hone ?_))
   refine bodyPost_ret (v:= .agg cs.toArray) ?_ rfl ?_
   ·exact Yx54
   exact HEND.out _ cs _ (below_setRow (HBW.out.trans (HB5.out.mono HBW.out.size)) (Nat.le_succ _) _) (HTK.out.setRow hz5 _) HX.out
  ·exact Yx38
 ·exact Yx34
end Go.Proofs.By
set_option linter.unusedSimpArgs false
namespace Go.Proofs.By
open Go.RowKit Go.Proofs.Heap
open Go.Proofs.Rm (TurnRow Turn Room RoomAt Inv doo u32s Do_any DoPost)
open Go.Proofs.Lab (Tabs)
open Go.Proofs.Mem
def TakePost (g b:Nat) (R:Room) (ep:Int) (o:Rm.Op) (l:List UInt8) (w:World) (e:Ending) (w':World):Prop:=
 ∃ sv,(∃ cs:List Value,e = .returned (.agg cs.toArray)∧TakenIn w' cs (take R ep o l sv).1.1)∧DoorAt w' g b (take R ep o l sv).1.2 (take R ep o l sv).2∧Fr w.heap.size (fun k=>k=b∨k=g) w w'
theorem doo_err {R:Room} {o:Rm.Op} {sv:Value} (h:(doo R o sv).2≠0):(doo R o sv).1.2=R:=by
 unfold doo at h ⊢
 split
 ·rfl
 ·rename_i h1;rw [if_neg h1] at h;exact absurd rfl h
theorem DoorAt.ne {w:World} {g b:Nat} {R:Room} {ep:Int} (h:DoorAt w g b R ep):g≠b:=by
 intro e
 obtain ⟨c,hc,_⟩:=h.room.cells
 rw [←e,h.blk] at hc
 injection hc with hc
 injection hc with _ hc
 exact absurd hc (by decide)
theorem DoorAt.setRow {w:World} {g b:Nat} {R:Room} {ep:Int} (h:DoorAt w g b R ep) {X:Nat} {c:Array Value} {f:Nat × Nat} (hg:w.heap[X]?=some (.cells c 100 f)) (hXg:g≠X) (hXb:b≠X) (c':Array Value):DoorAt (w.setRow X c') g b R ep:=
 ⟨by rw [setRow_other w X g _ hXg];exact h.blk,h.room.fr (fr_setRow w X c') (Nat.le_refl _) (fun e=>hXb e) (fun k _ _ hk=>by have hk:k=X:=hk;rw [hk,hg];intro h;injection h with h;injection h with _ h;exact absurd h (by decide))⟩
set_option maxRecDepth 100000 in
set_option maxHeartbeats 2000000 in
theorem Take_any (g b:Nat) (R:Room) (ep kd p n q:Int) (nm:List UInt8) (ss:List Int) (sa ba:Option Addr) (sc bl bc:Nat) (l:List UInt8) (w:World) (hD:DoorAt w g b R ep) (hI:Inv R) (hT:Tabs w) (h0:0≤ep) (h9:ep<1000000000)
  (hn:nm.length<9223372036854775807) (hs:RRow w (.slice sa ss.length sc) ss.length (u32s ss))
  (hdg:kd=1→∀ w1,Below w.heap.size w w1→Calls Tryz.prog 76 #[.pointer (some ⟨g,0,none⟩),.agg #[.int .i64 kd,.int .i64 p,.int .i64 n,.int .i64 q,.string (str nm),.slice sa ss.length sc,.slice ba bl bc]] w1 fun e w'=>(∃ cs:List Value,e = .returned (.agg cs.toArray)∧TakenIn w' cs (datagram R ep p l).1.1)∧DoorAt w' g b (datagram R ep p l).1.2 (datagram R ep p l).2∧Fr w1.heap.size (fun k=>k=b∨k=g) w1 w') :
  Calls Tryz.prog 44 #[.pointer (some ⟨g,0,none⟩),.agg #[.int .i64 kd,.int .i64 p,.int .i64 n,.int .i64 q,.string (str nm),.slice sa ss.length sc,.slice ba bl bc]] w (TakePost g b R ep ⟨kd,p,n,q,nm,ss⟩ l w):=by
 have HX:Hid (∀ sv,take R ep ⟨kd,p,n,q,nm,ss⟩ l sv=if kd=1 then datagram R ep p l else if (doo R ⟨kd,p,n,q,nm,ss⟩ sv).2≠0 then ((refusedT 6 (doo R ⟨kd,p,n,q,nm,ss⟩ sv).2,R),ep) else ((feedT (ep+1) [] (doo R ⟨kd,p,n,q,nm,ss⟩ sv).1.1 0,(doo R ⟨kd,p,n,q,nm,ss⟩ sv).1.2),ep+1)):=fun sv=>rfl
 have hgl:=hD.cells.2.2.2
 have hbl:=hD.room.lt
 have hgb:=hD.ne
 have hxb:((w.alloc (.cells #[.int .i64 kd,.int .i64 p,.int .i64 n,.int .i64 q,.string (str nm),.slice sa ss.length sc,.slice ba bl bc] 32)).alloc (.cells Yz2a 100)).heap[w.heap.size]?=some (.cells #[.int .i64 kd,.int .i64 p,.int .i64 n,.int .i64 q,.string (str nm),.slice sa ss.length sc,.slice ba bl bc] 32 (0,0)):=by
  rw [(below_alloc _ _).block _ Yo11]
  exact heap_new w _
 have hz:((w.alloc (.cells #[.int .i64 kd,.int .i64 p,.int .i64 n,.int .i64 q,.string (str nm),.slice sa ss.length sc,.slice ba bl bc] 32)).alloc (.cells Yz2a 100)).heap[w.heap.size+1]?=some (.cells Yz2a 100 (0,0)):=by
  have h:=heap_new (w.alloc (.cells #[.int .i64 kd,.int .i64 p,.int .i64 n,.int .i64 q,.string (str nm),.slice sa ss.length sc,.slice ba bl bc] 32)) (.cells Yz2a 100)
  exact Yx110
 have hbw:Below w.heap.size w ((w.alloc (.cells #[.int .i64 kd,.int .i64 p,.int .i64 n,.int .i64 q,.string (str nm),.slice sa ss.length sc,.slice ba bl bc] 32)).alloc (.cells Yz2a 100)):=bel_alloc (below_alloc w _) (Nat.le_refl _) _
 have HD1:Hid (DoorAt ((w.alloc (.cells #[.int .i64 kd,.int .i64 p,.int .i64 n,.int .i64 q,.string (str nm),.slice sa ss.length sc,.slice ba bl bc] 32)).alloc (.cells Yz2a 100)) g b R ep):=hD.below hbw
 have HXB:=Lib.hid hxb
 have HZ:=Lib.hid hz
 have HBW:=Lib.hid hbw
 have HEND:Hid (∀ w2 cs (T:(Taken × Room) × Int) sv,Fr ((w.alloc (.cells #[.int .i64 kd,.int .i64 p,.int .i64 n,.int .i64 q,.string (str nm),.slice sa ss.length sc,.slice ba bl bc] 32)).alloc (.cells Yz2a 100)).heap.size (fun k=>k=b∨k=g) ((w.alloc (.cells #[.int .i64 kd,.int .i64 p,.int .i64 n,.int .i64 q,.string (str nm),.slice sa ss.length sc,.slice ba bl bc] 32)).alloc (.cells Yz2a 100)) w2→TakenIn w2 cs T.1.1→DoorAt w2 g b T.1.2 T.2→take R ep ⟨kd,p,n,q,nm,ss⟩ l sv=T→TakePost g b R ep ⟨kd,p,n,q,nm,ss⟩ l w (.returned (.agg cs.toArray)) (w2.setRow (w.heap.size+1) cs.toArray)):=fun w2 cs T sv h1 h2 h3 h4=>by
  have hz2:=(h1.block (w.heap.size+1) (hp_lt hz) (by omega)).trans hz
  refine ⟨sv,⟨cs,rfl,by rw [h4];exact h2.setRow hz2 _⟩,by rw [h4];exact h3.setRow hz2 (by omega) (by omega) _,?_⟩
  exact fr_setRow' ((Fr.of_below _ hbw).trans (h1.mono hbw.size (fun _ _ h=>h))) (Nat.le_succ _) _
 by_cases hk:kd=1
 ·have CD:=Lib.hid (hdg hk _ hbw)
  have HXX:Hid (take R ep ⟨kd,p,n,q,nm,ss⟩ l (.slice none 0 0)=datagram R ep p l):=by show _=_;rw [HX.out,if_pos hk]
  subst hk
  clear HX hdg hD hT hs hxb hz hbw
  generalize datagram R ep p l=X at *
  go_enter Tryz.func44,Tryz.ntmps44
  go_wp2_with (first|(go_at_call 76;refine CD.out.mono ?_;rintro e w2 ⟨⟨cs,rfl,htk⟩,hd2,hf2⟩;have hz5:=(hf2.block (w.heap.size+1) (hp_lt HZ.out) (by omega)).trans HZ.out;have hi:=tk_info htk;have hold:=tk_hold htk;have hone:=htk.one;have HTK:=Lib.hid htk;have HD2:=Lib.hid hd2;have HF2:=Lib.hid hf2;clear htk hd2 hf2)|(with_reducible refine store_at 100 (.tmp 4) (.tmp 12) rfl ?_;refine store_rowTo2 rfl 100 (.tmp 4) (.tmp 12) rfl rfl (w.heap.size+1) cs.toArray rfl rfl 100 Yz2a hz5 hi hold hone ?_))
  refine bodyPost_ret (v:= .agg cs.toArray) ?_ rfl ?_
  ·exact Yx54
  exact HEND.out _ cs _ _ HF2.out HTK.out HD2.out HXX.out
 ·have HXX:Hid (∀ sv,take R ep ⟨kd,p,n,q,nm,ss⟩ l sv=if (doo R ⟨kd,p,n,q,nm,ss⟩ sv).2≠0 then ((refusedT 6 (doo R ⟨kd,p,n,q,nm,ss⟩ sv).2,R),ep) else ((feedT (ep+1) [] (doo R ⟨kd,p,n,q,nm,ss⟩ sv).1.1 0,(doo R ⟨kd,p,n,q,nm,ss⟩ sv).1.2),ep+1)):=fun sv=>by rw [HX.out,if_neg hk]
  have CD:=Lib.hid (Do_any b R ⟨kd,p,n,q,nm,ss⟩ sa ba sc bl bc ((w.alloc (.cells #[.int .i64 kd,.int .i64 p,.int .i64 n,.int .i64 q,.string (str nm),.slice sa ss.length sc,.slice ba bl bc] 32)).alloc (.cells Yz2a 100)).drew (HD1.out.room.below (Below.refl _ _).drew) hI (Utf8Tabs_below hT hbw.drew) hn (hs.below hbw.drew))
  have hkb:(kd == 1)=false:=by rw [beq_eq_false_iff_ne];exact hk
  dsimp only at CD
  clear HX hdg hD hT hs hxb hz hbw
  generalize hdo:doo R ⟨kd,p,n,q,nm,ss⟩=DO at *
  go_enter Tryz.func44,Tryz.ntmps44
  go_upto_region 3 with fail
  generalize ((w.alloc (.cells #[.int .i64 kd,.int .i64 p,.int .i64 n,.int .i64 q,.string (str nm),.slice sa ss.length sc,.slice ba bl bc] 32)).alloc (.cells Yz2a 100))=w1 at *
  have cg1:=HD1.out.cells.1
  have hx1:=HXB.out
  refine wp_region_noPanic ?_
  refine wp_region_held_drew (S:=(fun w'=>w'.cell? ⟨g,0,none⟩=some (.pointer (some ⟨b,0,none⟩)))) Yo3 ?_ (fun hHeld0=>?_)
  ·(try dsimp only)
   exact cg1
  refine YA 0 (h:=YA 1 (h:=YA 2 (h:=YA 3 (h:=?_))))
  refine YHR 4 (h:=fun K hK=>?_)
  refine step_loadrow (by rfl) 32 (.tmp 3) (by rfl) w.heap.size (by rfl) 32 #[.int .i64 kd,.int .i64 p,.int .i64 n,.int .i64 q,.string (str nm),.slice sa ss.length sc,.slice ba bl bc] (0,0) _ hx1 Tryz.underlying32 rfl Yo3 ?_
  refine hK.out _ _ ?_ (fun hHeld1=>?_)
  ·(try dsimp only)
   first|exact cg2|exact cg1
  clear hK K
  try simp only [AnyT.pt]
  refine YHR 5 (h:=fun K hK=>?_)
  go_simp
  refine CD.out.mono ?_
  rintro e w2 ⟨v,sv,rfl,htr,hroom,hfr⟩
  rw [hdo] at htr hroom
  try rw [hdo]
  obtain ⟨va,vc,hv,-⟩:=id htr
  subst hv
  have HTAKE:=Lib.hid (HXX.out sv)
  have HDOR:Hid ((DO sv).2≠0→(DO sv).1.2=R):=by rw [←hdo];exact doo_err
  have HF2:Hid (Fr w1.heap.size (fun k=>k=b∨k=g) w1 w2):=(Fr.of_below _ (Below.refl w1.heap.size w1).drew).trans (hfr.mono (Nat.le_refl _) (fun _ _ h=>Or.inl h))
  have HD2:Hid (DoorAt w2 g b (DO sv).1.2 ep):=⟨(hfr.block g (by have h:=HD1.out.cells.2.2.2;exact h) hgb).trans HD1.out.blk,hroom⟩
  have HTR:=Lib.hid htr
  have cg2:=HD2.out.cells.1
  clear htr hroom hfr CD
  generalize (DO sv).1.1.length=vn at *
  go_wp2_with fail
  refine hK.out _ _ ?_ (fun hHeld2=>?_)
  ·(try dsimp only)
   first|exact cg2|exact cg1
  clear hK K
  try simp only [AnyT.pt]
  refine YA 6 (h:=YA 7 (h:=YA 8 (h:=YA 9 (h:=YA 10 (h:=?_)))))
  refine wpAnyH_done Yo3 ?_ _
  refine NoPanic.normal ?_
  clear hHeld0 hHeld1 hHeld2
  by_cases he:(DO sv).2=0
  ·rw [he]
   rw [if_neg (by simp [he])] at HTAKE
   have hcs:([.int .i64 0,.int .i64 0,.int .i64 0,.int .i64 0,.bool false,.int .i64 0,.int .u16 0,.int .u32 0,.int .u32 0,.slice none 0 0,.bool false,.int .u16 0,.slice none 0 0,.slice none 0 0,.int .i64 0,.int .i64 0,.bool false,.bool false,.int .u16 0,.slice none 0 0,.slice va vn vc,.int .i64 0]:List Value).length=22:=rfl
   have CC:=Lib.hid (control_any g (.pointer (some ⟨b,0,none⟩)) ep [.int .i64 0,.int .i64 0,.int .i64 0,.int .i64 0,.bool false,.int .i64 0,.int .u16 0,.int .u32 0,.int .u32 0,.slice none 0 0,.bool false,.int .u16 0,.slice none 0 0,.slice none 0 0,.int .i64 0,.int .i64 0,.bool false,.bool false,.int .u16 0,.slice none 0 0,.slice va vn vc,.int .i64 0] w2 HD2.out.blk h0 h9 rfl Yo3)
   clear hcs
   have HTK2:Hid (TakenIn w2 ((([.int .i64 0,.int .i64 0,.int .i64 0,.int .i64 0,.bool false,.int .i64 0,.int .u16 0,.int .u32 0,.int .u32 0,.slice none 0 0,.bool false,.int .u16 0,.slice none 0 0,.slice none 0 0,.int .i64 0,.int .i64 0,.bool false,.bool false,.int .u16 0,.slice none 0 0,.slice va vn vc,.int .i64 0]:List Value).set 0 (.int .i64 2)).set 2 (.int .i64 (ep+1))) (feedT (ep+1) [] (DO sv).1.1 0)):=⟨_,_,_,_,_,rfl,PktR.nil _,ItmsRow.nil _,HTR.out⟩
   have HAP:=Lib.hid HD2.out.apart
   generalize hcc:((([.int .i64 0,.int .i64 0,.int .i64 0,.int .i64 0,.bool false,.int .i64 0,.int .u16 0,.int .u32 0,.int .u32 0,.slice none 0 0,.bool false,.int .u16 0,.slice none 0 0,.slice none 0 0,.int .i64 0,.int .i64 0,.bool false,.bool false,.int .u16 0,.slice none 0 0,.slice va vn vc,.int .i64 0]:List Value).set 0 (.int .i64 2)).set 2 (.int .i64 (ep+1)))=cs at *
   have HCC:=Lib.hid hcc
   clear hcc
   go_wp2_with (first|(go_at_call 79;refine CC.out.mono ?_;rintro e w5 ⟨rfl,hg5,hf5⟩;have HF5:Hid (Fr w1.heap.size (fun k=>k=b∨k=g) w1 w5):=HF2.out.trans (hf5.mono HF2.out.size (fun _ _ h=>Or.inr h));have hz5:=(HF5.out.block (w.heap.size+1) (hp_lt HZ.out) (by omega)).trans HZ.out;have HTK:Hid (TakenIn w5 cs (feedT (ep+1) [] (DO sv).1.1 0)):=HTK2.out.fr hf5 (fun k hk=>HAP.out k (Or.inr hk));have HD5:Hid (DoorAt w5 g b (DO sv).1.2 (ep+1)):=⟨hg5,HD2.out.room.fr hf5 (Nat.le_refl _) (fun h=>hgb (Eq.symm h)) (fun k c fr hk=>HAP.out.ne (by simp) k c fr (Or.inr hk))⟩;have hi:=tk_info HTK.out;have hold:=tk_hold HTK.out;have hone:=HTK.out.one;clear hg5 hf5 CC)|(with_reducible refine store_at 100 (.tmp 4) (.tmp 29) rfl ?_;refine store_rowTo2 rfl 100 (.tmp 4) (.tmp 29) rfl rfl (w.heap.size+1) cs.toArray rfl rfl 100 Yz2a hz5 hi hold hone ?_))
   refine bodyPost_ret (v:= .agg cs.toArray) ?_ rfl ?_
   ·exact Yx54
   exact HEND.out _ cs _ _ HF5.out HTK.out HD5.out HTAKE.out
  ·rw [if_pos he] at HTAKE
   have hb:((DO sv).2 != 0)=true:=by rw [bne_iff_ne];exact he
   have hb2:((DO sv).2 == 0)=false:=by rw [beq_eq_false_iff_ne];exact he
   have HDR:Hid (DoorAt w2 g b R ep):=by have h:=HD2.out;rw [HDOR.out he] at h;exact h
   clear HD2
   go_wp2_with (first|(go_at_call 78;refine (refused_any 6 (DO sv).2 _).mono ?_;rintro e w5 ⟨⟨cs,rfl,htk⟩,hb5⟩;have HF5:Hid (Fr w1.heap.size (fun k=>k=b∨k=g) w1 w5):=HF2.out.trans (Fr.of_below _ (hb5.mono HF2.out.size));have hz5:=(HF5.out.block (w.heap.size+1) (hp_lt HZ.out) (by omega)).trans HZ.out;have HD5:=Lib.hid (HDR.out.below hb5);have hi:=tk_info htk;have hold:=tk_hold htk;have hone:=htk.one;have HTK:=Lib.hid htk;clear htk hb5)|(with_reducible refine store_at 100 (.tmp 4) (.tmp 25) rfl ?_;refine store_rowTo2 rfl 100 (.tmp 4) (.tmp 25) rfl rfl (w.heap.size+1) cs.toArray rfl rfl 100 Yz2a hz5 hi hold hone ?_))
   refine bodyPost_ret (v:= .agg cs.toArray) ?_ rfl ?_
   ·exact Yx54
   exact HEND.out _ cs _ _ HF5.out HTK.out HD5.out HTAKE.out
end Go.Proofs.By
namespace Go.Proofs.By
open Go.Proofs.Rm (Room)
end Go.Proofs.By
set_option linter.unusedSimpArgs false
namespace Go.Proofs.By
open Go.RowKit Go.Proofs.Heap
open Go.Proofs.Rm (TurnRow Turn Room RoomAt Inv New_any)
theorem DoorNew_any (w:World):Calls Tryz.prog 40 #[] w fun e w'=>(∃ d b,e = .returned (.pointer (some ⟨d,0,none⟩))∧DoorAt w' d b Rm.empty 0∧w.heap.size≤d∧w.heap.size≤b)∧Below w.heap.size w w':=by
 have C:=Lib.hid (New_any w)
 go_enter Tryz.func40,Tryz.ntmps40
 go_wp2_with (go_at_call 69;refine C.out.mono ?_;rintro e w2 ⟨rfl,hroom,hb2⟩;have HR:=Lib.hid hroom;have HB:=Lib.hid hb2;clear hroom hb2)
 go_ret
 exact ⟨⟨_,w.heap.size,rfl,⟨heap_new w2 _,HR.out.below (below_alloc w2 _)⟩,HB.out.size,Nat.le_refl _⟩,bel_alloc HB.out (Nat.le_refl _) _⟩
end Go.Proofs.By
set_option linter.unusedSimpArgs false
namespace Go.Proofs.By
open Go.RowKit Go.Proofs.Heap
open Go.Proofs.Rm (TurnRow Turn Room RoomAt Inv doo u32s)
open Go.Proofs.Lab (Tabs)
open Go.Proofs.Mem
theorem DoorAt.fr {w w':World} {g b:Nat} {R:Room} {ep:Int} {S:Nat→Prop} (h:DoorAt w g b R ep) (hf:Fr w.heap.size S w w') (hd:¬S g) (hb:¬S b) (hS:∀ k c fr,S k→w.heap[k]?≠some (.cells c 66 fr)):DoorAt w' g b R ep:=
 ⟨(hf.block g (hp_lt h.blk) hd).trans h.blk,h.room.fr hf (Nat.le_refl _) hb hS⟩
end Go.Proofs.By
set_option linter.unusedSimpArgs false
namespace Go.Proofs.By
open Go.RowKit Go.Proofs.Heap
open Go.Proofs.Rm (TurnRow Turn Room RoomAt Inv doo u32s OpV opvCells inv_doo inv_empty Slim slim_doo slim_empty wrong turns)
open Go.Proofs.Lab (Tabs)
open Go.Proofs.Mem
structure OpB where
 x:OpV
 b:List UInt8
structure OpBsT (w:World) (v:Value) (L:List OpB):Prop where
 row:Row w 32 v L.length (L.flatMap fun y=>opvCells y.x)
 each:∀ y∈L,Row w 66 (.slice y.x.sa y.x.o.ssrcs.length y.x.sc) y.x.o.ssrcs.length (u32s y.x.o.ssrcs)∧Row w 5 (.slice y.x.ba y.x.bl y.x.bc) y.b.length (bys y.b)∧y.x.o.name.length<9223372036854775807
theorem OpBsT.below {w w':World} {v:Value} {L:List OpB} (h:OpBsT w v L) (hb:Below w.heap.size w w'):OpBsT w' v L:=⟨h.row.below hb,fun y hy=>⟨(h.each y hy).1.below hb,(h.each y hy).2.1.below hb,(h.each y hy).2.2⟩⟩
theorem OpBsT.fr {w w':World} {v:Value} {L:List OpB} {S:Nat→Prop} (h:OpBsT w v L) (hf:Fr w.heap.size S w w') (hS:Apart w S):OpBsT w' v L:=
 ⟨Row.fr h.row hf (Nat.le_refl _) (hS.ne (by simp)),fun y hy=>⟨Row.fr (h.each y hy).1 hf (Nat.le_refl _) (hS.ne (by simp)),Row.fr (h.each y hy).2.1 hf (Nat.le_refl _) (hS.ne (by simp)),(h.each y hy).2.2⟩⟩
def pk7:List UInt8:=[128,96,0,7,0,0,0,50,0,0,0,10,192,90,0,9,5]
def bop:Nat→Rm.Op
 | 0=>⟨2,1,0,0,[97,110,110],[]⟩
 | 1=>⟨2,2,0,0,[98,111,98],[]⟩
 | 2=>⟨4,1,3,0,[],[10,11]⟩
 | 3=>⟨6,2,3,0,[],[]⟩
 | _=>⟨1,1,0,0,[],[]⟩
def bOps (h:Nat):List OpB:=[⟨⟨bop 0,none,0,none,0,0⟩,[]⟩,⟨⟨bop 1,none,0,none,0,0⟩,[]⟩,⟨⟨bop 2,some ⟨h,0,none⟩,2,none,0,0⟩,[]⟩,⟨⟨bop 3,none,0,none,0,0⟩,[]⟩,⟨⟨bop 4,none,0,some ⟨h+1,0,none⟩,17,17⟩,pk7⟩]
theorem packet_any (w:World):Calls Tryz.prog 68 #[.int .u8 7,.int .u8 10] w fun e w'=>e = .returned (.slice (some ⟨w.heap.size,0,none⟩) 17 17)∧w'=w.alloc (.cells (bys pk7).toArray 5):=by
 go_enter Tryz.func68,Tryz.ntmps68
 go_wp2
 go_ret
 exact ⟨rfl,rfl⟩
theorem begin_any (w:World):Calls Tryz.prog 39 #[] w fun e w'=>e = .returned (.slice (some ⟨w.heap.size+2,0,none⟩) 5 5)∧OpBsT w' (.slice (some ⟨w.heap.size+2,0,none⟩) 5 5) (bOps w.heap.size)∧Below w.heap.size w w':=by
 have C:=Lib.hid packet_any
 go_enter Tryz.func39,Tryz.ntmps39
 go_wp2_with (go_at_call 68;refine (C.out _).mono ?_;rintro e w2 ⟨rfl,rfl⟩)
 exact Yx33
end Go.Proofs.By
