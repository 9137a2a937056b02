/- Several texts in one: The walk of rtcp.item. The walk of rtcp.Get. slices.Clone of items, blocks, numbers, pairs: the clone is a row of its own. -/
import Derived.Great.BuildSlice
import Derived.Test.YtpdjhlcbcomdkaaGreatDoorV01
import Derived.Test.YtpdjhlcbcomdkaaGreatDoorV02
import Derived.Test.YtpdjhlcbcomdkaaGreatDoorV05
import Derived.Test.YtpdjhlcbcomdkaaGreatDoorV06
import Derived.Test.YtpdjhlcbcomdkaaGreatDoorV07
import Derived.Test.YtpdjhlcbcomdkaaGreatDoorV11
import Derived.Test.YtpdjhlcbcomdkaaGreatDoorV12
set_option linter.unusedVariables false
set_option linter.unusedSimpArgs false
set_option linter.unusedSimpArgs false
namespace Go.Proofs.By
open Go.RowKit Go.Proofs.Heap
theorem results_cell2 {P:Program} {fn:Func} {p u v:Tmp} {ty:TypeId} (h:fn.results=#[.cell p ty,.tmp u,.tmp v]) (tmps:Array Value) (w:World) (g:Nat) (t:TypeId) (cs:Array Value) (fr:Nat × Nat) (d:TypeDesc)
  (hp:tmps.getD p undef = .pointer (some ⟨g,0,none⟩)) (hg:w.heap[g]?=some (.cells cs t fr))
  (hu:P.underlying ty=some d) (hd:(match d with | .struct _ | .array _ _=>true|_=>false)=true) (hi:(P.info? ty).map (·.size)=some cs.size) :
  (results fn tmps).run P w = .ok (.tuple #[.agg cs,tmps.getD u undef,tmps.getD v undef]) w:=by
 have hp':tmps[p]?.getD undef = .pointer (some ⟨g,0,none⟩):=by simpa using hp
 simp [results,h,hp',asAddr,run_loadVar_row w g t ty cs fr d hg hu hd hi]
theorem reportGet_any (v:Value) (b:List UInt8) (w:World) (hv:BRow w v b) :
  Calls Tryz.prog 170 #[v] w fun e w'=>(∃ a,e = .returned (.tuple #[a,.int .i64 (reportGet b).1.2,.int .i64 (reportGet b).2])∧ItmIn w' a (reportGet b).1.1)∧Below w.heap.size w w':=by
 by_cases h:(right b).2=0
 ·exact reportGet_ok v b w hv h
 ·exact reportGet_err v b w hv h
theorem itmR_of {w:World} {v:Value} {i:Itm} (h:ItmIn w v i):∃ xa xc ya yc za zc,v = .agg #[.int .i64 i.kind,.int .u32 i.ssrc,.int .u64 i.ntp,.int .u32 i.time,.int .u32 i.packets,.int .u32 i.octets,.slice xa i.blocks.length xc,.slice ya i.gone.length yc,.int .u32 i.media,.slice za i.pairs.length zc]∧ItmR w ⟨i,.slice xa i.blocks.length xc,.slice ya i.gone.length yc,.slice za i.pairs.length zc⟩:=by
 obtain ⟨bv,gv,pv,h1,h2,h3,h4⟩:=h.ex
 obtain ⟨xa,xc,rfl⟩:=Row.form h2
 obtain ⟨ya,yc,rfl⟩:=Row.form h3
 obtain ⟨za,zc,rfl⟩:=Row.form h4
 exact ⟨xa,xc,ya,yc,za,zc,h1,⟨h2,h3,h4⟩⟩
theorem itmIn_of {w:World} {i:Itm} {xa ya za:Option Addr} {xc yc zc:Nat} (h:ItmR w ⟨i,.slice xa i.blocks.length xc,.slice ya i.gone.length yc,.slice za i.pairs.length zc⟩):ItmIn w (.agg #[.int .i64 i.kind,.int .u32 i.ssrc,.int .u64 i.ntp,.int .u32 i.time,.int .u32 i.packets,.int .u32 i.octets,.slice xa i.blocks.length xc,.slice ya i.gone.length yc,.int .u32 i.media,.slice za i.pairs.length zc]) i:=⟨_,_,_,rfl,h.b,h.g,h.p⟩
theorem ItmR.setRow {w:World} {x:ItmV} (h:ItmR w x) {g:Nat} {c:Array Value} {f:Nat × Nat} (hg:w.heap[g]?=some (.cells c 173 f)) (c':Array Value):ItmR (w.setRow g c') x:=
 ⟨Row.setRow h.b hg (by decide) c',Row.setRow h.g hg (by decide) c',Row.setRow h.p hg (by decide) c'⟩
theorem itmR_none (w:World):ItmR w ⟨noItm,.slice none 0 0,.slice none 0 0,.slice none 0 0⟩:=⟨Row.nil _ _,Row.nil _ _,Row.nil _ _⟩
theorem ikind_ok {b:List UInt8} (h:(ikind b).2=true) (h2:¬((ikind b).1=200∨(ikind b).1=201)):(ikind b).1=203∨(ikind b).1=205∨(ikind b).1=206:=by
 unfold ikind at h h2 ⊢
 split at h
 ·rename_i h1;rw [if_pos h1] at h2 ⊢;omega
 ·rename_i h1
  rw [if_neg h1] at h2 ⊢
  split at h
  ·rename_i h3;rw [if_pos h3] at h2 ⊢;omega
  ·cases h
theorem ilength_ok {b:List UInt8} {k:Nat} (hk:k=203∨k=205∨k=206) (h:(ilength b k).2=true):(ilength b k).1 % 4=0∧4≤(ilength b k).1∧(k≠203→12≤(ilength b k).1):=by
 unfold ilength at h ⊢
 by_cases h1:k=203
 ·dsimp only at h ⊢
  rw [if_pos h1] at h ⊢
  exact ⟨by show (get b 2 2+1)*4 % 4=0;omega,by show 4≤(get b 2 2+1)*4;omega,fun h=>absurd h1 h⟩
 ·dsimp only at h ⊢
  rw [if_neg h1] at h ⊢
  by_cases h2:k=205
  ·rw [if_pos h2] at h ⊢
   have h:=(Bool.and_eq_true _ _).mp h
   have h3:=of_decide_eq_true h.1
   exact ⟨by show (get b 2 2+1)*4 % 4=0;omega,by show 4≤(get b 2 2+1)*4;omega,fun _=>by show 12≤(get b 2 2+1)*4;omega⟩
  ·rw [if_neg h2] at h ⊢
   have h3:=of_decide_eq_true h
   exact ⟨by show (get b 2 2+1)*4 % 4=0;omega,by show 4≤(get b 2 2+1)*4;omega,fun _=>by show 12≤(get b 2 2+1)*4;omega⟩
theorem parts_any (v:Value) (b:List UInt8) (k:Nat) (w:World) (hv:BRow w v b) (hk:k=203∨k=205∨k=206) (h4:b.length % 4=0) (hb:b.length≤1000) (hb4:4≤b.length) (hb12:k≠203→12≤b.length) :
  Calls Tryz.prog 172 #[v,.int .i64 (k:Int)] w fun e w'=>(∃ a,e = .returned a∧ItmIn w' a (parts b k))∧Below w.heap.size w w':=by
 by_cases h:k=203
 ·subst h;exact parts_bye v b w hv h4 hb hb4
 ·exact parts_other v b k w hv h4 hb (hb12 h) h (by omega)
set_option maxRecDepth 100000 in
set_option maxHeartbeats 2000000 in
theorem item_any (v:Value) (b:List UInt8) (w:World) (hv:BRow w v b) (hb:b.length≤512) :
  Calls Tryz.prog 151 #[v] w fun e w'=>(∃ a,e = .returned (.tuple #[a,.int .i64 ((itemGet b).1.2:Nat),.int .i64 (itemGet b).2])∧ItmIn w' a (itemGet b).1.1)∧Below w.heap.size w w':=by
 have HX:Hid (itemGet b=if b.length<4 then ((noItm,0),2) else if at8 b 0 / 32≠4 then ((noItm,0),1) else if (ikind b).2=false then ((noItm,0),4) else if (ikind b).1=200∨(ikind b).1=201 then reportGet b else if (ilength b (ikind b).1).2=false then ((noItm,0),1) else if b.length<(ilength b (ikind b).1).1 then ((noItm,0),2) else ((parts (b.take (ilength b (ikind b).1).1) (ikind b).1,(ilength b (ikind b).1).1),0)):=rfl
 have HV:Hid (∀ w',Below w.heap.size w w'→BRow w' v b):=fun w' h=>hv.below h
 have hz1:=heap_new w (.cells Yz1a 173)
 have HB1:=Lib.hid (below_alloc w (.cells Yz1a 173))
 have HEND:Hid (∀ w2 n er,w2.heap[w.heap.size]?=some (.cells Yz1a 173 (0,0))→Below w.heap.size w w2→itemGet b=((noItm,n),er)→(∃ a,Ending.returned (.tuple #[.agg Yz1a,.int .i64 (n:Nat),.int .i64 er]) = .returned (.tuple #[a,.int .i64 ((itemGet b).1.2:Nat),.int .i64 (itemGet b).2])∧ItmIn (w2.setRow w.heap.size Yz1a) a (itemGet b).1.1)∧Below w.heap.size w (w2.setRow w.heap.size Yz1a)):=fun w2 n er h1 h2 h3=>by
  rw [h3]
  exact ⟨⟨_,rfl,itmIn_of ((itmR_none w2).setRow h1 _)⟩,below_setRow h2 (Nat.le_refl _) _⟩
 obtain ⟨va,c,rfl,hcc,-⟩:=id hv
 have hbl:=fun h=>b_at hv h
 clear hv
 have HCC:=Lib.hid hcc
 clear hcc
 generalize itemGet b=X at *
 by_cases h1:b.length<4
 ·rw [if_pos h1] at HX
  clear HV hbl
  go_enter Tryz.func151,Tryz.ntmps151
  go_wp2_with (first|(with_reducible refine store_at 173 (.tmp 2) (.tmp 12) rfl ?_;refine store_rowTo2 rfl 173 (.tmp 2) (.tmp 12) rfl rfl w.heap.size Yz1a rfl rfl 173 Yz1a hz1 Yo3 Yo3 Yo3 ?_))
  refine bodyPost_ret (v:= .tuple #[.agg Yz1a,.int .i64 0,.int .i64 2]) ?_ rfl ?_
  ·exact Yx96
  exact HEND.out _ 0 2 hz1 HB1.out HX.out
 obtain ⟨g,off,cap,e1,_,_,hc⟩:=hbl (by omega)
 cases e1
 have d0:w.cell? ⟨g,off,none⟩=some (.int .u8 (at8 b 0:Int)):=hc 0 (by omega)
 have l1:decide ((b.length:Int)<4)=false:=decide_eq_false (by omega)
 have hgl:g<w.heap.size:=World.block_lt_of_cell? w ⟨g,off,none⟩ d0
 rw [if_neg h1] at HX
 clear hc hbl
 by_cases h2:at8 b 0 / 32≠4
 ·have q:(((at8 b 0:Nat):Int) / 32 != 4)=true:=by rw [bne_iff_ne];omega
  rw [if_pos h2] at HX
  clear h2
  go_enter Tryz.func151,Tryz.ntmps151
  go_wp2_with (first|(with_reducible refine store_at 173 (.tmp 2) (.tmp 19) rfl ?_;refine store_rowTo2 rfl 173 (.tmp 2) (.tmp 19) rfl rfl w.heap.size Yz1a rfl rfl 173 Yz1a hz1 Yo3 Yo3 Yo3 ?_))
  refine bodyPost_ret (v:= .tuple #[.agg Yz1a,.int .i64 0,.int .i64 1]) ?_ rfl ?_
  ·exact Yx96
  exact HEND.out _ 0 1 hz1 HB1.out HX.out
 have q2:(((at8 b 0:Nat):Int) / 32 != 4)=false:=by rw [bne_eq_false_iff_eq];omega
 rw [if_neg h2] at HX
 have CK:=Lib.hid (ikind_any _ b (w.alloc (.cells Yz1a 173)) (HV.out _ HB1.out) (by omega))
 have HKO:=Lib.hid (ikind_ok (b:=b))
 clear h2
 generalize ikind b=K at *
 obtain ⟨k,ok⟩:=K
 dsimp only at HX CK HKO
 cases ok with
 | false=>
  rw [if_pos rfl] at HX
  go_enter Tryz.func151,Tryz.ntmps151
  go_wp2_with (first|(go_at_call 169;refine CK.out.mono ?_;rintro e w2 ⟨rfl,hb2⟩;have hz2:=(hb2.block w.heap.size (hp_lt hz1)).trans hz1;have HB2:=Lib.hid (HB1.out.trans (hb2.mono HB1.out.size));clear hb2)|(with_reducible refine store_at 173 (.tmp 2) (.tmp 27) rfl ?_;refine store_rowTo2 rfl 173 (.tmp 2) (.tmp 27) rfl rfl w.heap.size Yz1a rfl rfl 173 Yz1a hz2 Yo3 Yo3 Yo3 ?_))
  refine bodyPost_ret (v:= .tuple #[.agg Yz1a,.int .i64 0,.int .i64 4]) ?_ rfl ?_
  ·exact Yx56
  exact HEND.out _ 0 4 hz2 HB2.out HX.out
 | true=>
  rw [if_neg (by simp)] at HX
  by_cases hk:k=200∨k=201
  ·rw [if_pos hk] at HX
   have kb:((k:Int) == 200)=true∨(((k:Int) == 200)=false∧((k:Int) == 201)=true):=by
    rcases hk with h|h
    ·left;rw [beq_iff_eq];omega
    ·right;exact ⟨by rw [beq_eq_false_iff_ne];omega,by rw [beq_iff_eq];omega⟩
   clear hk HKO
   rcases kb with kb|⟨kb,kb2⟩
   ·exact Yx19
   ·exact Yx19
  ·rw [if_neg hk] at HX
   have hk3:=HKO.out rfl hk
   have kb:((k:Int) == 200)=false:=by rw [beq_eq_false_iff_ne];omega
   have kb2:((k:Int) == 201)=false:=by rw [beq_eq_false_iff_ne];omega
   have CL:Hid (∀ w',Below w.heap.size w w'→Calls Tryz.prog 171 #[(.slice (some ⟨g,off,none⟩) b.length c),.int .i64 (k:Int)] w' fun e w''=>e = .returned (.tuple #[.int .i64 ((ilength b k).1:Nat),.bool (ilength b k).2])∧w'=w''):=fun w' h=>ilength_any _ b k w' (HV.out w' h) (by omega)
   have HLO:=Lib.hid (ilength_ok (b:=b) hk3)
   clear hk HKO
   generalize ilength b k=Y at *
   obtain ⟨n,ok⟩:=Y
   dsimp only at HX CL HLO
   cases ok with
   | false=>
    rw [if_pos rfl] at HX
    go_enter Tryz.func151,Tryz.ntmps151
    go_wp2_with (first|(go_at_call 169;refine CK.out.mono ?_;rintro e w2 ⟨rfl,hb2⟩;have hz2:=(hb2.block w.heap.size (hp_lt hz1)).trans hz1;have HB2:=Lib.hid (HB1.out.trans (hb2.mono HB1.out.size));clear hb2)|(go_at_call 171;refine (CL.out _ HB2.out).mono ?_;rintro e w3 ⟨rfl,rfl⟩)|(with_reducible refine store_at 173 (.tmp 2) (.tmp 48) rfl ?_;refine store_rowTo2 rfl 173 (.tmp 2) (.tmp 48) rfl rfl w.heap.size Yz1a rfl rfl 173 Yz1a hz2 Yo3 Yo3 Yo3 ?_))
    refine bodyPost_ret (v:= .tuple #[.agg Yz1a,.int .i64 0,.int .i64 1]) ?_ rfl ?_
    ·exact Yx56
    exact HEND.out _ 0 1 hz2 HB2.out HX.out
   | true=>
    rw [if_neg (by simp)] at HX
    obtain ⟨n4,n5,n6⟩:=HLO.out rfl
    by_cases hln:b.length<n
    ·rw [if_pos hln] at HX
     go_enter Tryz.func151,Tryz.ntmps151
     go_wp2_with (first|(go_at_call 169;refine CK.out.mono ?_;rintro e w2 ⟨rfl,hb2⟩;have hz2:=(hb2.block w.heap.size (hp_lt hz1)).trans hz1;have HB2:=Lib.hid (HB1.out.trans (hb2.mono HB1.out.size));clear hb2)|(go_at_call 171;refine (CL.out _ HB2.out).mono ?_;rintro e w3 ⟨rfl,rfl⟩)|(with_reducible refine store_at 173 (.tmp 2) (.tmp 54) rfl ?_;refine store_rowTo2 rfl 173 (.tmp 2) (.tmp 54) rfl rfl w.heap.size Yz1a rfl rfl 173 Yz1a hz2 Yo3 Yo3 Yo3 ?_))
     refine bodyPost_ret (v:= .tuple #[.agg Yz1a,.int .i64 0,.int .i64 2]) ?_ rfl ?_
     ·exact Yx56
     exact HEND.out _ 0 2 hz2 HB2.out HX.out
    ·rw [if_neg hln] at HX
     obtain ⟨a',hsl,-,hrow⟩:=slice_to (P:=Tryz.prog) elemU8 (some ⟨g,off,none⟩) b.length c n (by have:=HCC.out;omega)
     have htl:(b.take n).length=n:=by rw [List.length_take];omega
     have CPA:Hid (∀ w',Below w.heap.size w w'→Calls Tryz.prog 172 #[.slice a' n c,.int .i64 (k:Int)] w' fun e w''=>(∃ a,e = .returned a∧ItmIn w'' a (parts (b.take n) k))∧Below w'.heap.size w' w''):=fun w' h=>by
      refine parts_any _ (b.take n) k w' ?_ hk3 (by rw [htl];exact n4) (by rw [htl];omega) (by rw [htl];exact n5) (by rw [htl];exact n6)
      have h5:=hrow w' (bys b) (by omega) (by rw [bys_length,Nat.mul_one]) (HV.out w' h)
      rw [Nat.mul_one,bys_take] at h5
      show RRow _ _ (b.take n).length _
      rw [htl]
      exact h5
     clear hrow htl
     generalize parts (b.take n) k=i at *
     go_enter Tryz.func151,Tryz.ntmps151
     go_wp2_with (first|(go_at_call 169;refine CK.out.mono ?_;rintro e w2 ⟨rfl,hb2⟩;have hz2:=(hb2.block w.heap.size (hp_lt hz1)).trans hz1;have HB2:=Lib.hid (HB1.out.trans (hb2.mono HB1.out.size));clear hb2)|(go_at_call 171;refine (CL.out _ HB2.out).mono ?_;rintro e w3 ⟨rfl,rfl⟩)|(go_at_call 172;refine (CPA.out _ HB2.out).mono ?_;rintro e w4 ⟨⟨a,rfl,hit⟩,hb4⟩;obtain ⟨xa,xc,ya,yc,za,zc,ha,hir⟩:=itmR_of hit;subst ha;have HIR:=Lib.hid hir;have hz4:=(hb4.block w.heap.size (hp_lt hz2)).trans hz2;have HB4:=Lib.hid (HB2.out.trans (hb4.mono HB2.out.size));clear hit hir hb4)|(with_reducible refine store_at 173 (.tmp 2) (.tmp 59) rfl ?_;refine store_rowTo2 rfl 173 (.tmp 2) (.tmp 59) rfl rfl w.heap.size #[.int .i64 i.kind,.int .u32 i.ssrc,.int .u64 i.ntp,.int .u32 i.time,.int .u32 i.packets,.int .u32 i.octets,.slice xa i.blocks.length xc,.slice ya i.gone.length yc,.int .u32 i.media,.slice za i.pairs.length zc] rfl rfl 173 Yz1a hz4 Yo3 Yo3 Yo3 ?_))
     refine bodyPost_ret (v:= .tuple #[.agg #[.int .i64 i.kind,.int .u32 i.ssrc,.int .u64 i.ntp,.int .u32 i.time,.int .u32 i.packets,.int .u32 i.octets,.slice xa i.blocks.length xc,.slice ya i.gone.length yc,.int .u32 i.media,.slice za i.pairs.length zc],.int .i64 (n:Nat),.int .i64 0]) ?_ rfl ?_
     ·exact results_cell2 (p:=2) (u:=3) (v:=4) (by rfl) _ _ w.heap.size 173 #[.int .i64 i.kind,.int .u32 i.ssrc,.int .u64 i.ntp,.int .u32 i.time,.int .u32 i.packets,.int .u32 i.octets,.slice xa i.blocks.length xc,.slice ya i.gone.length yc,.int .u32 i.media,.slice za i.pairs.length zc] (0,0) _ (by rfl) (setRow_heap _ _ _ _ _ _ hz4) Tryz.underlying173 rfl Yo3
     exact ⟨⟨_,by rw [HX.out],by rw [HX.out];exact itmIn_of (HIR.out.setRow hz4 _)⟩,below_setRow HB4.out (Nat.le_refl _) _⟩
end Go.Proofs.By
set_option linter.unusedSimpArgs false
namespace Go.Proofs.By
open Go.RowKit Go.Proofs.Heap
theorem step_slice1 {P:Program} {ops:Array Oper} {o:Oper} {a:Act} {w:World} {K:Act→World→Prop} {Q:Exit→Act→World→Prop} {E':Prop} (hgd:o.guard=none) {t e:TypeId} {size bytes:Nat} (E:Elem P t e size bytes) (x:Operand) (ho:o.op = .buildSlice t 1 #[(0,x)])
  (cells:Array Value) (hx:a.eval x = .agg cells) (hs:cells.size=size) (hsm:size≤1000)
  (h:K (a.put o.dst (.slice (some ⟨w.heap.size,0,none⟩) 1 1)) (w.alloc (.cells cells e))):if Region.wanted o (yielded ops a.tmps)=true then Oper.wp P o a w K Q else E':=by
 have hw:Region.wanted o (yielded ops a.tmps)=true:=by simp [Region.wanted,hgd]
 rw [if_pos hw]
 obtain ⟨z,hinfo,hzs⟩:=E.info
 obtain ⟨i,hi,hz,hsize,hby⟩:=info_parts hinfo
 have hpos:=E.pos
 refine Go.wp_buildSlice t e 1 #[(0,x)] ho cells i z E.ht hi hz (by rw [hsize];omega) (by rw [hsize];omega) ?_ h
 have hf:=Go.Great.fill_whole (s:=i.size) (by omega) [.agg cells] ((Array.range (1*i.size)).map (z.cells[· % z.cells.size]!)) (fun v hv=>by rw [List.mem_singleton] at hv;subst hv;show cells.size=_;omega) (by simp)
 have e1:([Value.agg cells].flatMap fun v=>v.cells.toList).toArray=cells:=by simp [Value.cells]
 rw [e1] at hf
 simpa [hx] using hf
theorem elemItm:Elem Tryz.prog 82 173 10 120:=⟨Tryz.underlying82,⟨.agg Yz1a,by kernel_rfl,rfl⟩,by decide⟩
def comb (L:List Itm) (x:List Itm × Int):List Itm × Int:=if x.2≠0 then ([],x.2) else (L++x.1,0)
theorem comb_err (L:List Itm) (k:Nat) {r:List UInt8} (h:(itemGet r).2≠0):comb L (itemsGo (k+1) r)=([],(itemGet r).2):=by
 have e:itemsGo (k+1) r=([],(itemGet r).2):=by unfold itemsGo;rw [if_pos h]
 rw [e];unfold comb;rw [if_pos h]
theorem comb_last (L:List Itm) (k:Nat) {r:List UInt8} (h:(itemGet r).2=0) (hl:r.length-(itemGet r).1.2=0):comb L (itemsGo (k+1) r)=(L++[(itemGet r).1.1],0):=by
 have e:itemsGo (k+1) r=([(itemGet r).1.1],0):=by unfold itemsGo;rw [if_neg (by simp [h]),if_pos hl]
 rw [e];rfl
theorem comb_more (L:List Itm) (k:Nat) {r:List UInt8} (h:(itemGet r).2=0) (hl:¬r.length-(itemGet r).1.2=0):comb L (itemsGo (k+1) r)=comb (L++[(itemGet r).1.1]) (itemsGo k (r.drop (itemGet r).1.2)):=by
 have e:itemsGo (k+1) r=(if (itemsGo k (r.drop (itemGet r).1.2)).2≠0 then ([],(itemsGo k (r.drop (itemGet r).1.2)).2) else ((itemGet r).1.1 :: (itemsGo k (r.drop (itemGet r).1.2)).1,0)):=by
  conv=>lhs;unfold itemsGo
  rw [if_neg (by simp [h]),if_neg hl]
 rw [e]
 generalize itemsGo k (r.drop (itemGet r).1.2)=y
 by_cases h2:y.2≠0
 ·rw [if_pos h2]
  unfold comb
  rw [if_pos h2,if_pos h2]
 ·rw [if_neg h2]
  unfold comb
  rw [if_neg h2,List.append_assoc]
  exact if_neg (by simp)
theorem itemsGo_err {k:Nat} {b:List UInt8} (h:(itemsGo k b).2≠0):itemsGo k b=([],(itemsGo k b).2):=by
 cases k with
 | zero=>rfl
 | succ k=>
  unfold itemsGo at h ⊢
  by_cases h1:(itemGet b).2≠0
  ·rw [if_pos h1]
  rw [if_neg h1] at h ⊢
  by_cases h2:b.length-(itemGet b).1.2=0
  ·rw [if_pos h2] at h;exact absurd rfl h
  rw [if_neg h2] at h ⊢
  dsimp only at h ⊢
  by_cases h3:(itemsGo k (b.drop (itemGet b).1.2)).2≠0
  ·rw [if_pos h3]
  ·rw [if_neg h3] at h;exact absurd rfl h
theorem itemGet_le {b:List UInt8} (h:(itemGet b).2=0):(itemGet b).1.2≤b.length:=by
 unfold itemGet at h ⊢
 by_cases h1:b.length<4
 ·rw [if_pos h1] at h;cases h
 rw [if_neg h1] at h ⊢
 by_cases h2:at8 b 0 / 32≠4
 ·rw [if_pos h2] at h;cases h
 rw [if_neg h2] at h ⊢
 by_cases h3:(ikind b).2=false
 ·rw [if_pos h3] at h;cases h
 rw [if_neg h3] at h ⊢
 by_cases h4:(ikind b).1=200∨(ikind b).1=201
 ·rw [if_pos h4] at h ⊢
  unfold reportGet at h ⊢
  by_cases h5:(right b).2≠0
  ·rw [if_pos h5] at h;exact absurd h h5
  ·rw [if_neg h5]
   have:=right_ok (b:=b) (by omega)
   show (right b).1≤_
   rw [this.2.2.2.1]
   exact this.2.2.2.2
 rw [if_neg h4] at h ⊢
 dsimp only at h ⊢
 by_cases h5:(ilength b (ikind b).1).2=false
 ·rw [if_pos h5] at h;cases h
 rw [if_neg h5] at h ⊢
 by_cases h6:b.length<(ilength b (ikind b).1).1
 ·rw [if_pos h6] at h;cases h
 rw [if_neg h6]
 show (ilength b (ikind b).1).1≤_
 omega
def lenV:Value→Nat
 | .slice _ n _=>n
 | _=>0
theorem fr_grown {w w':World} {row:Option Nat} (hg:w.grownBy w' row):Fr w.heap.size (fun k=>row=some k) w w':=⟨hg.os,hg.tape,hg.output,hg.size,fun k hk hs=>hg.block k hk (fun e=>hs e.symm)⟩
theorem owns_typ {base:Nat} {e e2:TypeId} {size:Nat} {v:Value} {n:Nat} {xs:List Value} {w:World} (h:w.ownsRow base e size v n xs) (hne:e2≠e):∀ k c fr,v.ownBlock=some k→w.heap[k]?≠some (.cells c e2 fr):=by
 intro k c fr hk hc
 obtain ⟨_,h⟩:=h
 rcases h with ⟨rfl,_⟩|⟨g,cap,cur,rfl,hg,hh,_⟩
 ·cases hk
 ·have hk:some g=some k:=hk
  cases hk
  rw [hh] at hc
  injection hc with hc
  injection hc with _ hc
  exact hne hc.symm
theorem ItmR.frT {w w':World} {x:ItmV} {S:Nat→Prop} (h:ItmR w x) (hf:Fr w.heap.size S w w') (h1:∀ k c fr,S k→w.heap[k]?≠some (.cells c 228 fr)) (h2:∀ k c fr,S k→w.heap[k]?≠some (.cells c 66 fr)) (h3:∀ k c fr,S k→w.heap[k]?≠some (.cells c 226 fr)):ItmR w' x:=
 ⟨Row.fr h.b hf (Nat.le_refl _) h1,Row.fr h.g hf (Nat.le_refl _) h2,Row.fr h.p hf (Nat.le_refl _) h3⟩
set_option maxRecDepth 100000 in
set_option maxHeartbeats 4000000 in
theorem rtcpGet_any (v:Value) (b:List UInt8) (w:World) (hv:BRow w v b) :
  Calls Tryz.prog 124 #[v] w fun e w'=>(∃ a,e = .returned (.tuple #[a,.int .i64 (itemsGet b).2])∧ItmsRow w' a (itemsGet b).1)∧Below w.heap.size w w':=by
 have HX:Hid (itemsGet b=if 512<b.length then ([],5) else itemsGo 8 b):=rfl
 have HV:Hid (∀ w',Below w.heap.size w w'→BRow w' v b):=fun w' h=>hv.below h
 have hlen:=hv.len
 obtain ⟨va,c,rfl,hcc,-⟩:=id hv
 clear hv hcc
 generalize itemsGet b=X at *
 by_cases h1:512<b.length
 ·rw [if_pos h1] at HX
  clear HV
  go_enter Tryz.func124,Tryz.ntmps124
  go_wp2_with fail
  go_ret2
  exact ⟨⟨.slice none 0 0,by rw [HX.out];rfl,by rw [HX.out];exact ItmsRow.nil _⟩,Below.refl _ _⟩
 rw [if_neg h1] at HX
 have HC0:Hid (itemsGo 8 b=comb [] (itemsGo (8-0) b)):=by
  show _=_
  unfold comb
  by_cases h:(itemsGo 8 b).2≠0
  ·rw [if_pos h]
   obtain ⟨y,hy⟩:∃ y,y=itemsGo 8 b:=⟨_,rfl⟩
   exact itemsGo_err h
  ·rw [if_neg h]
   have h:(itemsGo 8 b).2=0:=by omega
   show itemsGo 8 b=([]++(itemsGo 8 b).1,0)
   rw [List.nil_append,←h]
 go_enter Tryz.func124,Tryz.ntmps124
 go_upto_region 4 with fail
 go_loopw [0,4] (fun s0 s4 w'=>∃ (j:Nat) (r:List UInt8) (ra:Option Addr) (rc:Nat) (L:List ItmV),j≤8∧L.length=j∧r.length≤512∧s0 = .slice ra r.length rc∧lenV s4=j∧Below w.heap.size w w'∧w'.ownsRow w.heap.size 173 10 s4 j (L.flatMap itmvCells)∧(∀ x∈L,ItmR w' x)∧Hid (∀ w'',Below w.heap.size w w''→BRow w'' (.slice ra r.length rc) r)∧Hid (itemsGo 8 b=comb (L.map (·.i)) (itemsGo (8-j) r))) (fun _ s4 _=>8-lenV s4)
 case atStart=>exact ⟨0,b,va,c,[],Nat.zero_le _,rfl,by omega,rfl,rfl,Below.refl _ _,World.ownsRow_nil _ _ _ _,fun _ h=>by (exact absurd h (by simp)),HV.out,HC0.out⟩
 case round=>
  clear HC0 HV
  obtain ⟨j,r,ra,rc,L,hj,hLj,hr,rfl,-,hbel,hown,hits,HR,HG⟩:=hrel
  obtain ⟨oa,oc,rfl,-,-⟩:=Row.of_owns hown
  have HBEL:=Lib.hid hbel
  have HOWN:=Lib.hid hown
  have HITS:=Lib.hid hits
  have hsz:=hbel.size
  have HLJ:=Lib.hid hLj
  clear hbel hown hits hLj
  by_cases h8:j=8
  ·subst h8
   go_wp2_with fail
   go_ret2
   exact ⟨⟨.slice none 0 0,by rw [HX.out,HG.out];rfl,by rw [HX.out,HG.out];exact ItmsRow.nil _⟩,HBEL.out⟩
  have e8:((j:Int) == 8)=false:=by rw [beq_eq_false_iff_ne];omega
  obtain ⟨q,hq⟩:∃ q,8-j=q+1:=⟨7-j,by omega⟩
  rw [hq] at HG
  have CI:=Lib.hid (item_any _ r wr (HR.out _ HBEL.out) hr)
  have hrc:r.length≤rc:=by
   have h:=HR.out _ HBEL.out
   obtain ⟨a1,c1,h1,h2,_⟩:=h
   injection h1 with _ _ h1
   omega
  have HLE:=Lib.hid (itemGet_le (b:=r))
  have HE:=Lib.hid (comb_err (L.map (·.i)) q (r:=r))
  have HL1:=Lib.hid (comb_last (L.map (·.i)) q (r:=r))
  have HM:=Lib.hid (comb_more (L.map (·.i)) q (r:=r))
  generalize itemGet r=Y at *
  obtain ⟨⟨i,n⟩,er⟩:=Y
  dsimp only at CI HLE HE HL1 HM
  go_upto_region 7 with (go_at_call 151;refine CI.out.mono ?_;rintro e w2 ⟨⟨a,rfl,hit⟩,hb2⟩;obtain ⟨xa,xc,ya,yc,za,zc,ha,hir⟩:=itmR_of hit;subst ha;have HIR:=Lib.hid hir;have HB2:=Lib.hid hb2;clear hit hir hb2)
  clear CI
  by_cases her:er=0
  ·subst her
   have hnr:n≤r.length:=HLE.out Yo32
   obtain ⟨a2,hsl,-,hrow⟩:=slice_from (P:=Tryz.prog) elemU8 ra r.length rc n hnr hrc
   have HROW:=Lib.hid hrow
   have hk2:=heap_new w2 (.cells #[.int .i64 i.kind,.int .u32 i.ssrc,.int .u64 i.ntp,.int .u32 i.time,.int .u32 i.packets,.int .u32 i.octets,.slice xa i.blocks.length xc,.slice ya i.gone.length yc,.int .u32 i.media,.slice za i.pairs.length zc] 173)
   have hs2:=HB2.out.size
   have HBW2:Hid (Below w.heap.size w (w2.alloc (.cells #[.int .i64 i.kind,.int .u32 i.ssrc,.int .u64 i.ntp,.int .u32 i.time,.int .u32 i.packets,.int .u32 i.octets,.slice xa i.blocks.length xc,.slice ya i.gone.length yc,.int .u32 i.media,.slice za i.pairs.length zc] 173)).drew):=(bel_alloc (HBEL.out.trans (HB2.out.mono hsz)) (Nat.le_refl _) _).drew
   have HBW3:Hid (Below w.heap.size w ((w2.alloc (.cells #[.int .i64 i.kind,.int .u32 i.ssrc,.int .u64 i.ntp,.int .u32 i.time,.int .u32 i.packets,.int .u32 i.octets,.slice xa i.blocks.length xc,.slice ya i.gone.length yc,.int .u32 i.media,.slice za i.pairs.length zc] 173)).drew.alloc (.cells #[.int .i64 i.kind,.int .u32 i.ssrc,.int .u64 i.ntp,.int .u32 i.time,.int .u32 i.packets,.int .u32 i.octets,.slice xa i.blocks.length xc,.slice ya i.gone.length yc,.int .u32 i.media,.slice za i.pairs.length zc] 173))):=bel_alloc (bel_alloc (HBEL.out.trans (HB2.out.mono hsz)) (Nat.le_refl _) _).drew (Nat.le_refl _) _
   have hb23:Below w2.heap.size w2 ((w2.alloc (.cells #[.int .i64 i.kind,.int .u32 i.ssrc,.int .u64 i.ntp,.int .u32 i.time,.int .u32 i.packets,.int .u32 i.octets,.slice xa i.blocks.length xc,.slice ya i.gone.length yc,.int .u32 i.media,.slice za i.pairs.length zc] 173)).drew.alloc (.cells #[.int .i64 i.kind,.int .u32 i.ssrc,.int .u64 i.ntp,.int .u32 i.time,.int .u32 i.packets,.int .u32 i.octets,.slice xa i.blocks.length xc,.slice ya i.gone.length yc,.int .u32 i.media,.slice za i.pairs.length zc] 173)):=bel_alloc (below_alloc w2 _).drew (Nat.le_refl _) _
   have HOWN3:=Lib.hid (owns_bel (owns_bel HOWN.out HB2.out) hb23)
   have HITS3:Hid (∀ x∈L++[⟨i,.slice xa i.blocks.length xc,.slice ya i.gone.length yc,.slice za i.pairs.length zc⟩],ItmR ((w2.alloc (.cells #[.int .i64 i.kind,.int .u32 i.ssrc,.int .u64 i.ntp,.int .u32 i.time,.int .u32 i.packets,.int .u32 i.octets,.slice xa i.blocks.length xc,.slice ya i.gone.length yc,.int .u32 i.media,.slice za i.pairs.length zc] 173)).drew.alloc (.cells #[.int .i64 i.kind,.int .u32 i.ssrc,.int .u64 i.ntp,.int .u32 i.time,.int .u32 i.packets,.int .u32 i.octets,.slice xa i.blocks.length xc,.slice ya i.gone.length yc,.int .u32 i.media,.slice za i.pairs.length zc] 173)) x):=fun x hx=>by
    rcases List.mem_append.1 hx with h|h
    ·exact ((HITS.out x h).below HB2.out).below hb23
    ·rw [List.mem_singleton] at h;subst h;exact HIR.out.below hb23
   clear hb23 hrow
   go_upto_region 9 with fail
   refine wp_region_noPanic ?_
   refine wp_region_held_drew (S:=(fun w'=>Below w.heap.size w w')) Yo3 ?_ (fun hHeld0=>?_)
   ·(try dsimp only)
    exact HBW2.out
   refine YA 0 (h:=YA 4 (h:=YA 5 (h:=YA 6 (h:=?_))))
   refine YHR 1 (h:=fun K hK=>?_)
   refine step_loadrow (by rfl) 173 (.tmp 5) (by rfl) w2.heap.size (by rfl) 173 #[.int .i64 i.kind,.int .u32 i.ssrc,.int .u64 i.ntp,.int .u32 i.time,.int .u32 i.packets,.int .u32 i.octets,.slice xa i.blocks.length xc,.slice ya i.gone.length yc,.int .u32 i.media,.slice za i.pairs.length zc] (0,0) _ hk2 Tryz.underlying173 rfl Yo3 ?_
   refine hK.out _ _ ?_ (fun hHeld1=>?_)
   ·(try dsimp only)
    first|exact HB5.out|exact HBW3.out|exact HBW2.out
   clear hK K
   try simp only [AnyT.pt]
   refine YHR 2 (h:=fun K hK=>?_)
   refine step_slice1 (by rfl) elemItm (.tmp 24) (by rfl) #[.int .i64 i.kind,.int .u32 i.ssrc,.int .u64 i.ntp,.int .u32 i.time,.int .u32 i.packets,.int .u32 i.octets,.slice xa i.blocks.length xc,.slice ya i.gone.length yc,.int .u32 i.media,.slice za i.pairs.length zc] (by rfl) (by rfl) (by decide) ?_
   refine hK.out _ _ ?_ (fun hHeld2=>?_)
   ·(try dsimp only)
    first|exact HB5.out|exact HBW3.out|exact HBW2.out
   clear hK K
   try simp only [AnyT.pt]
   refine YHR 3 (h:=fun K hK=>?_)
   refine step_app (by rfl) (.tmp 23) (.tmp 25) 82 (by rfl) w.heap.size elemItm (.slice oa j oc) j (L.flatMap itmvCells) (by rfl) HOWN3.out (.slice (some ⟨(w2.alloc (.cells #[.int .i64 i.kind,.int .u32 i.ssrc,.int .u64 i.ntp,.int .u32 i.time,.int .u32 i.packets,.int .u32 i.octets,.slice xa i.blocks.length xc,.slice ya i.gone.length yc,.int .u32 i.media,.slice za i.pairs.length zc] 173)).drew.heap.size,0,none⟩) 1 1) 1 [.int .i64 i.kind,.int .u32 i.ssrc,.int .u64 i.ntp,.int .u32 i.time,.int .u32 i.packets,.int .u32 i.octets,.slice xa i.blocks.length xc,.slice ya i.gone.length yc,.int .u32 i.media,.slice za i.pairs.length zc] (by rfl) (rowNew (w2.alloc (.cells #[.int .i64 i.kind,.int .u32 i.ssrc,.int .u64 i.ntp,.int .u32 i.time,.int .u32 i.packets,.int .u32 i.octets,.slice xa i.blocks.length xc,.slice ya i.gone.length yc,.int .u32 i.media,.slice za i.pairs.length zc] 173)).drew 173 1 [.int .i64 i.kind,.int .u32 i.ssrc,.int .u64 i.ntp,.int .u32 i.time,.int .u32 i.packets,.int .u32 i.octets,.slice xa i.blocks.length xc,.slice ya i.gone.length yc,.int .u32 i.media,.slice za i.pairs.length zc] (by decide)) rfl (by intro u hu;simp only [List.mem_cons,List.mem_nil_iff,or_false] at hu;rcases hu with rfl|rfl|rfl|rfl|rfl|rfl|rfl|rfl|rfl|rfl <;> rfl) (by omega) (by omega) HBW3.out.size ?_
   intro v' w5 HO HG5
   have HFG:=Lib.hid (fr_grown HG5.out)
   obtain ⟨va',vc',hva',-,-⟩:=Row.of_owns HO.out
   subst hva'
   have HB5:Hid (Below w.heap.size w w5):=HBW3.out.trans (Fr.below (HFG.out.mono HBW3.out.size (fun k hk hs=>absurd (owns_ge HOWN3.out k hs) (by omega))))
   refine hK.out _ _ ?_ (fun hHeld3=>?_)
   ·(try dsimp only)
    first|exact HB5.out|exact HBW3.out|exact HBW2.out
   clear hK K
   try simp only [AnyT.pt]
   refine YA 7 (h:=YA 8 (h:=?_))
   refine wpAnyH_done Yo3 ?_ _
   refine NoPanic.normal ?_
   have HITS5:Hid (∀ x∈L++[⟨i,.slice xa i.blocks.length xc,.slice ya i.gone.length yc,.slice za i.pairs.length zc⟩],ItmR w5 x):=fun x hx=>(HITS3.out x hx).frT HFG.out (owns_typ HOWN3.out (by decide)) (owns_typ HOWN3.out (by decide)) (owns_typ HOWN3.out (by decide))
   have HFL:Hid ((L++[(⟨i,.slice xa i.blocks.length xc,.slice ya i.gone.length yc,.slice za i.pairs.length zc⟩:ItmV)]).flatMap itmvCells=L.flatMap itmvCells++[.int .i64 i.kind,.int .u32 i.ssrc,.int .u64 i.ntp,.int .u32 i.time,.int .u32 i.packets,.int .u32 i.octets,.slice xa i.blocks.length xc,.slice ya i.gone.length yc,.int .u32 i.media,.slice za i.pairs.length zc]):=by
    show _=_
    rw [List.flatMap_append]
    rfl
   clear hHeld0 hHeld1 hHeld2 hHeld3 HITS3 HFG HOWN3 HBW2 HBW3 HOWN HITS hk2
   by_cases hl:r.length-n=0
   ·rw [hl]
    go_wp2_with fail
    go_ret2
    refine ⟨⟨.slice va' (j+1) vc',by rw [HX.out,HG.out,HL1.out Yo32 hl];rfl,?_⟩,HB5.out⟩
    rw [HX.out,HG.out,HL1.out Yo32 hl]
    refine ⟨L++[⟨i,.slice xa i.blocks.length xc,.slice ya i.gone.length yc,.slice za i.pairs.length zc⟩],by rw [List.map_append];rfl,?_,HITS5.out⟩
    rw [HFL.out,List.length_append,HLJ.out]
    exact Row.of_owns HO.out
   ·have bl:(((r.length-n:Nat):Int) == 0)=false:=by rw [beq_eq_false_iff_ne];omega
    have hdl:(r.drop n).length=r.length-n:=List.length_drop
    go_wp2_with fail
    go_roundw
    case rel=>
     refine ⟨j+1,r.drop n,a2,rc-n,L++[⟨i,.slice xa i.blocks.length xc,.slice ya i.gone.length yc,.slice za i.pairs.length zc⟩],by omega,by rw [List.length_append,HLJ.out];rfl,by omega,by rw [hdl],rfl,HB5.out,by rw [HFL.out];exact HO.out,HITS5.out,?_,?_⟩
     ·intro w'' h
      have h5:=HROW.out w'' (bys r) (by rw [bys_length,Nat.mul_one]) (HR.out w'' h)
      rw [Nat.mul_one,bys_drop] at h5
      show RRow _ _ (r.drop n).length _
      rw [hdl]
      exact h5
     ·show _=_
      rw [HG.out,HM.out Yo32 hl,List.map_append,show 8-(j+1)=q by omega]
      rfl
    case measure=>show 8-(j+1)<8-j;omega
  ·have bl:(er != 0)=true:=by rw [bne_iff_ne];exact her
   have bl2:(er == 0)=false:=by rw [beq_eq_false_iff_ne];exact her
   go_wp2_with fail
   go_ret2
   exact ⟨⟨.slice none 0 0,by rw [HX.out,HG.out,HE.out her];rfl,by rw [HX.out,HG.out,HE.out her];exact ItmsRow.nil _⟩,bel_alloc (HBEL.out.trans (HB2.out.mono hsz)) (Nat.le_refl _) _⟩
end Go.Proofs.By
set_option linter.unusedSimpArgs false
namespace Go.Proofs.By
open Go.RowKit Go.Proofs.Heap
set_option maxHeartbeats 1000000 in
theorem ItmsClone_any (v:Value) (n:Nat) (xs:List Value) (w:World) (hv:Row w 173 v n xs) (hx:xs.length=n*10) (h1:∀ u∈xs,u.oneCell'=true) (hl:n≤1000000) :
  Calls Tryz.prog 157 #[v] w fun e w'=>(∃ v',e = .returned v'∧w'.ownsRow w.heap.size 173 10 v' n xs)∧Below w.heap.size w w':=by
 obtain ⟨a,cap,rfl,hx1,hx2,hx3,hx4⟩:=id hv
 have HV:=Lib.hid hv
 have HN:=Lib.hid hx3
 have HXL:=Lib.hid hx
 have HON:=Lib.hid h1
 clear hv hx4 hx1 hx2 hx3 hx h1
 cases a with
 | none=>
  obtain ⟨h1,h2⟩:=HN.out rfl
  have HL:Hid (xs=[]):=List.eq_nil_of_length_eq_zero (by rw [HXL.out,h1])
  have he:=fun w=>Lib.run_eql_slice_nil (P:=Tryz.prog) w 82 173 none n cap 0 0 Tryz.underlying82
  have HH1:=Lib.hid h1
  clear h1 h2
  go_enter Tryz.func157,Tryz.ntmps157
  go_wp2
  go_ret
  exact ⟨⟨_,rfl,by rw [HL.out,HH1.out];exact World.ownsRow_nil _ _ _ _⟩,Below.refl _ _⟩
 | some a=>
  have he:=fun w=>Lib.run_eql_slice_nil (P:=Tryz.prog) w 82 173 (some a) n cap 0 0 Tryz.underlying82
  clear HN
  go_enter Tryz.func157,Tryz.ntmps157
  go_wp2_with (at_builtin;refine wpList_app rfl (.tmp 5) (.tmp 6) 82 rfl w.heap.size elemItm _ 0 [] rfl (owns_empty w 173 10) _ n xs rfl (HV.out.below (below_alloc _ _)) HXL.out HON.out (by omega) (by omega) (by simp) (fun v' w1 HO HG=>?_))
  go_ret
  have hb:=((Fr.refl w.heap.size NoB w).alloc (Nat.le_refl _) (.cells #[] 173)).grown HG.out (by simp) (by
   intro k hk
   have hk:some w.heap.size=some k:=hk
   cases hk
   exact Nat.le_refl _)
  refine ⟨⟨_,rfl,?_⟩,hb.below⟩
  have:=HO.out
  rwa [Nat.zero_add,List.nil_append] at this
set_option maxHeartbeats 1000000 in
theorem BlksClone_any (v:Value) (n:Nat) (xs:List Value) (w:World) (hv:Row w 228 v n xs) (hx:xs.length=n*7) (h1:∀ u∈xs,u.oneCell'=true) (hl:n≤1000000) :
  Calls Tryz.prog 158 #[v] w fun e w'=>(∃ v',e = .returned v'∧w'.ownsRow w.heap.size 228 7 v' n xs)∧Below w.heap.size w w':=by
 obtain ⟨a,cap,rfl,hx1,hx2,hx3,hx4⟩:=id hv
 have HV:=Lib.hid hv
 have HN:=Lib.hid hx3
 have HXL:=Lib.hid hx
 have HON:=Lib.hid h1
 clear hv hx4 hx1 hx2 hx3 hx h1
 cases a with
 | none=>
  obtain ⟨h1,h2⟩:=HN.out rfl
  have HL:Hid (xs=[]):=List.eq_nil_of_length_eq_zero (by rw [HXL.out,h1])
  have he:=fun w=>Lib.run_eql_slice_nil (P:=Tryz.prog) w 170 228 none n cap 0 0 Tryz.underlying170
  have HH1:=Lib.hid h1
  clear h1 h2
  go_enter Tryz.func158,Tryz.ntmps158
  go_wp2
  go_ret
  exact ⟨⟨_,rfl,by rw [HL.out,HH1.out];exact World.ownsRow_nil _ _ _ _⟩,Below.refl _ _⟩
 | some a=>
  have he:=fun w=>Lib.run_eql_slice_nil (P:=Tryz.prog) w 170 228 (some a) n cap 0 0 Tryz.underlying170
  clear HN
  go_enter Tryz.func158,Tryz.ntmps158
  go_wp2_with (at_builtin;refine wpList_app rfl (.tmp 5) (.tmp 6) 170 rfl w.heap.size elemBlk _ 0 [] rfl (owns_empty w 228 7) _ n xs rfl (HV.out.below (below_alloc _ _)) HXL.out HON.out (by omega) (by omega) (by simp) (fun v' w1 HO HG=>?_))
  go_ret
  have hb:=((Fr.refl w.heap.size NoB w).alloc (Nat.le_refl _) (.cells #[] 228)).grown HG.out (by simp) (by
   intro k hk
   have hk:some w.heap.size=some k:=hk
   cases hk
   exact Nat.le_refl _)
  refine ⟨⟨_,rfl,?_⟩,hb.below⟩
  have:=HO.out
  rwa [Nat.zero_add,List.nil_append] at this
set_option maxHeartbeats 1000000 in
theorem U32sClone_any (v:Value) (n:Nat) (xs:List Value) (w:World) (hv:Row w 66 v n xs) (hx:xs.length=n*1) (h1:∀ u∈xs,u.oneCell'=true) (hl:n≤1000000) :
  Calls Tryz.prog 112 #[v] w fun e w'=>(∃ v',e = .returned v'∧w'.ownsRow w.heap.size 66 1 v' n xs)∧Below w.heap.size w w':=by
 obtain ⟨a,cap,rfl,hx1,hx2,hx3,hx4⟩:=id hv
 have HV:=Lib.hid hv
 have HN:=Lib.hid hx3
 have HXL:=Lib.hid hx
 have HON:=Lib.hid h1
 clear hv hx4 hx1 hx2 hx3 hx h1
 cases a with
 | none=>
  obtain ⟨h1,h2⟩:=HN.out rfl
  have HL:Hid (xs=[]):=List.eq_nil_of_length_eq_zero (by rw [HXL.out,h1])
  have he:=fun w=>Lib.run_eql_slice_nil (P:=Tryz.prog) w 29 66 none n cap 0 0 Tryz.underlying29
  have HH1:=Lib.hid h1
  clear h1 h2
  go_enter Tryz.func112,Tryz.ntmps112
  go_wp2
  go_ret
  exact ⟨⟨_,rfl,by rw [HL.out,HH1.out];exact World.ownsRow_nil _ _ _ _⟩,Below.refl _ _⟩
 | some a=>
  have he:=fun w=>Lib.run_eql_slice_nil (P:=Tryz.prog) w 29 66 (some a) n cap 0 0 Tryz.underlying29
  clear HN
  go_enter Tryz.func112,Tryz.ntmps112
  go_wp2_with (at_builtin;refine wpList_app rfl (.tmp 5) (.tmp 6) 29 rfl w.heap.size elemU32 _ 0 [] rfl (owns_empty w 66 1) _ n xs rfl (HV.out.below (below_alloc _ _)) HXL.out HON.out (by omega) (by omega) (by simp) (fun v' w1 HO HG=>?_))
  go_ret
  have hb:=((Fr.refl w.heap.size NoB w).alloc (Nat.le_refl _) (.cells #[] 66)).grown HG.out (by simp) (by
   intro k hk
   have hk:some w.heap.size=some k:=hk
   cases hk
   exact Nat.le_refl _)
  refine ⟨⟨_,rfl,?_⟩,hb.below⟩
  have:=HO.out
  rwa [Nat.zero_add,List.nil_append] at this
set_option maxHeartbeats 1000000 in
theorem ParsClone_any (v:Value) (n:Nat) (xs:List Value) (w:World) (hv:Row w 226 v n xs) (hx:xs.length=n*2) (h1:∀ u∈xs,u.oneCell'=true) (hl:n≤1000000) :
  Calls Tryz.prog 159 #[v] w fun e w'=>(∃ v',e = .returned v'∧w'.ownsRow w.heap.size 226 2 v' n xs)∧Below w.heap.size w w':=by
 obtain ⟨a,cap,rfl,hx1,hx2,hx3,hx4⟩:=id hv
 have HV:=Lib.hid hv
 have HN:=Lib.hid hx3
 have HXL:=Lib.hid hx
 have HON:=Lib.hid h1
 clear hv hx4 hx1 hx2 hx3 hx h1
 cases a with
 | none=>
  obtain ⟨h1,h2⟩:=HN.out rfl
  have HL:Hid (xs=[]):=List.eq_nil_of_length_eq_zero (by rw [HXL.out,h1])
  have he:=fun w=>Lib.run_eql_slice_nil (P:=Tryz.prog) w 171 226 none n cap 0 0 Tryz.underlying171
  have HH1:=Lib.hid h1
  clear h1 h2
  go_enter Tryz.func159,Tryz.ntmps159
  go_wp2
  go_ret
  exact ⟨⟨_,rfl,by rw [HL.out,HH1.out];exact World.ownsRow_nil _ _ _ _⟩,Below.refl _ _⟩
 | some a=>
  have he:=fun w=>Lib.run_eql_slice_nil (P:=Tryz.prog) w 171 226 (some a) n cap 0 0 Tryz.underlying171
  clear HN
  go_enter Tryz.func159,Tryz.ntmps159
  go_wp2_with (at_builtin;refine wpList_app rfl (.tmp 5) (.tmp 6) 171 rfl w.heap.size elemPair _ 0 [] rfl (owns_empty w 226 2) _ n xs rfl (HV.out.below (below_alloc _ _)) HXL.out HON.out (by omega) (by omega) (by simp) (fun v' w1 HO HG=>?_))
  go_ret
  have hb:=((Fr.refl w.heap.size NoB w).alloc (Nat.le_refl _) (.cells #[] 226)).grown HG.out (by simp) (by
   intro k hk
   have hk:some w.heap.size=some k:=hk
   cases hk
   exact Nat.le_refl _)
  refine ⟨⟨_,rfl,?_⟩,hb.below⟩
  have:=HO.out
  rwa [Nat.zero_add,List.nil_append] at this
end Go.Proofs.By
