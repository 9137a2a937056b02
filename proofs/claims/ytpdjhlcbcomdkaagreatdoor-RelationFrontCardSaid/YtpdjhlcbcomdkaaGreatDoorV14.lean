/- Several texts in one: The walk of own.Items. The walk of sift.Of: any datagram. The walk of sift.Flat: feedback. The walks of package stamp's SSRCs, and of the reference's: Out, Whose. The walks of door.Owned and door.Heard. The walk of door.Item. -/
import Derived.Deep.DeepCutAuto
import Derived.Deep.CutBlock
import Derived.Test.YtpdjhlcbcomdkaaGreatDoorChecked
import Derived.Test.YtpdjhlcbcomdkaaGreatDoorV01
import Derived.Test.YtpdjhlcbcomdkaaGreatDoorV02
import Derived.Test.YtpdjhlcbcomdkaaGreatDoorV04
import Derived.Test.YtpdjhlcbcomdkaaGreatDoorV05
import Derived.Test.YtpdjhlcbcomdkaaGreatDoorV10
import Derived.Test.YtpdjhlcbcomdkaaGreatDoorV11
import Derived.Test.YtpdjhlcbcomdkaaGreatDoorV12
import Derived.Test.YtpdjhlcbcomdkaaGreatDoorV13
set_option linter.unusedVariables false
set_option linter.unusedSimpArgs false
set_option linter.unusedSimpArgs false
namespace Go.Proofs.By
open Go.RowKit Go.Proofs.Heap
theorem u32s_length' (l:List Int):(u32s l).length=l.length:=List.length_map _
theorem u32s_oneI (l:List Int):∀ u∈u32s l,u.oneCell'=true:=by
 intro u hu
 obtain ⟨x,_,rfl⟩:=List.mem_map.1 hu
 rfl
theorem owns_someI {w:World} {base:Nat} {e:TypeId} {size:Nat} {v:Value} {n:Nat} {xs:List Value} (h:w.ownsRow base e size v n xs) (hn:0<n):∃ g cap cur,v = .slice (some ⟨g,0,none⟩) n cap∧base≤g∧w.heap[g]?=some (.cells cur e):=by
 obtain ⟨_,h⟩:=h
 rcases h with ⟨_,h⟩|⟨g,cap,cur,hv,hg,hh,h1,h2,h3,h4⟩
 ·omega
 ·exact ⟨g,cap,cur,hv,hg,hh⟩
theorem owns_setI {w:World} {base:Nat} {e:TypeId} {size:Nat} {n:Nat} {xs:List Value} {g cap:Nat} (h:w.ownsRow base e size (.slice (some ⟨g,0,none⟩) n cap) n xs) (hn:0<n) (i:Nat) (u:Value):(w.setCell ⟨g,i,none⟩ u).ownsRow base e size (.slice (some ⟨g,0,none⟩) n cap) n (xs.set i u):=by
 exact Yx92
theorem itm_set6 (u:Value):∀ (Q:List ItmV) (k:Nat) (hk:k<Q.length),(Q.flatMap itmvCells).set (k*10+6) u=(Q.set k {Q[k] with bv:=u}).flatMap itmvCells
 | [],k,hk=>by simp at hk
 | x :: Q,0,_=>by simp [itmvCells]
 | x :: Q,k+1,hk=>by
  have ih:=itm_set6 u Q k (by simpa using hk)
  rw [List.flatMap_cons,List.set_append_right _ _ (by show 10≤_;omega),List.set_cons_succ,List.flatMap_cons]
  have:(k+1)*10+6-(itmvCells x).length=k*10+6:=by show _-10=_;omega
  rw [this,ih]
  rfl
theorem itm_set7 (u:Value):∀ (Q:List ItmV) (k:Nat) (hk:k<Q.length),(Q.flatMap itmvCells).set (k*10+7) u=(Q.set k {Q[k] with gv:=u}).flatMap itmvCells
 | [],k,hk=>by simp at hk
 | x :: Q,0,_=>by simp [itmvCells]
 | x :: Q,k+1,hk=>by
  have ih:=itm_set7 u Q k (by simpa using hk)
  rw [List.flatMap_cons,List.set_append_right _ _ (by show 10≤_;omega),List.set_cons_succ,List.flatMap_cons]
  have:(k+1)*10+7-(itmvCells x).length=k*10+7:=by show _-10=_;omega
  rw [this,ih]
  rfl
theorem itm_set9 (u:Value):∀ (Q:List ItmV) (k:Nat) (hk:k<Q.length),(Q.flatMap itmvCells).set (k*10+9) u=(Q.set k {Q[k] with pv:=u}).flatMap itmvCells
 | [],k,hk=>by simp at hk
 | x :: Q,0,_=>by simp [itmvCells]
 | x :: Q,k+1,hk=>by
  have ih:=itm_set9 u Q k (by simpa using hk)
  rw [List.flatMap_cons,List.set_append_right _ _ (by show 10≤_;omega),List.set_cons_succ,List.flatMap_cons]
  have:(k+1)*10+9-(itmvCells x).length=k*10+9:=by show _-10=_;omega
  rw [this,ih]
  rfl
theorem itm_set (Q:List ItmV) (k:Nat) (hk:k<Q.length) (b g p:Value):(((Q.flatMap itmvCells).set (k*10+6) b).set (k*10+7) g).set (k*10+9) p=(Q.set k ⟨Q[k].i,b,g,p⟩).flatMap itmvCells:=by
 rw [itm_set6 b Q k hk,itm_set7 g _ k (by rw [List.length_set];exact hk),itm_set9 p _ k (by rw [List.length_set,List.length_set];exact hk)]
 simp [List.set_set]
theorem itm_at {w:World} {a:Option Addr} {n c:Nat} {l:List ItmV} (h:Row w 173 (.slice a n c) n (l.flatMap itmvCells)) (hl:0<l.length):∃ g off,a=some ⟨g,off,none⟩∧∀ (i:Nat) (x:ItmV),l[i]?=some x→∀ j,j<10→w.cell? ⟨g,off+i*10+j,none⟩=(itmvCells x)[j]?:=by
 have hfl:=flat_length itmvCells 10 (fun _=>rfl) l
 obtain ⟨g,off,cap,h1,h2,h3,h4,h5⟩:=Row.open h (by rw [hfl];omega)
 injection h1 with e1 _ _
 refine ⟨g,off,e1,fun i x hx j hj=>?_⟩
 have hi:i<l.length:=(List.getElem?_eq_some_iff.1 hx).1
 rw [Nat.add_assoc,h5 (i*10+j) (by rw [hfl];omega)]
 exact flat_at itmvCells 10 (fun _=>rfl) l i j x hx hj
theorem ItmR.setAt {w:World} {x:ItmV} (h:ItmR w x) {g:Nat} {c:Array Value} {f:Nat × Nat} (hg:w.heap[g]?=some (.cells c 173 f)) (o:Nat) (u:Value):ItmR (w.setCell ⟨g,o,none⟩ u) x:=by
 have hf:Fr w.heap.size (· = g) w (w.setCell ⟨g,o,none⟩ u):=(Fr.refl _ _ _).setAt _ _
 have hne:∀ e,173≠e→∀ k c fr,k=g→w.heap[k]?≠some (.cells c e fr):=by
  intro e he k c fr hk hc
  rw [hk,hg] at hc
  injection hc with hc
  injection hc with _ hc
  exact he hc
 exact h.frT hf (hne _ (by decide)) (hne _ (by decide)) (hne _ (by decide))
theorem itmv_one {x:ItmV} (h1:∃ a n c,x.bv = .slice a n c) (h2:∃ a n c,x.gv = .slice a n c) (h3:∃ a n c,x.pv = .slice a n c):∀ u∈itmvCells x,u.oneCell'=true:=by
 obtain ⟨i,bv,gv,pv⟩:=x
 obtain ⟨_,_,_,h1⟩:=h1
 obtain ⟨_,_,_,h2⟩:=h2
 obtain ⟨_,_,_,h3⟩:=h3
 dsimp only at h1 h2 h3
 subst h1;subst h2;subst h3
 intro u hu
 simp only [itmvCells,List.mem_cons,List.mem_nil_iff,or_false] at hu
 rcases hu with rfl|rfl|rfl|rfl|rfl|rfl|rfl|rfl|rfl|rfl <;> rfl
theorem flat_one {α:Type} {f:α→List Value} {l:List α} (h:∀ x∈l,∀ u∈f x,u.oneCell'=true):∀ u∈l.flatMap f,u.oneCell'=true:=by
 intro u hu
 obtain ⟨x,hx,hu⟩:=List.mem_flatMap.1 hu
 exact h x hx u hu
theorem blk_one (x:Blk):∀ u∈blkCells x,u.oneCell'=true:=by
 intro u hu
 simp only [blkCells,List.mem_cons,List.mem_nil_iff,or_false] at hu
 rcases hu with rfl|rfl|rfl|rfl|rfl|rfl|rfl <;> rfl
theorem pair_one (x:Int × Int):∀ u∈pairCells x,u.oneCell'=true:=by
 intro u hu
 simp only [pairCells,List.mem_cons,List.mem_nil_iff,or_false] at hu
 rcases hu with rfl|rfl <;> rfl
set_option maxRecDepth 100000 in
set_option maxHeartbeats 8000000 in
theorem OwnItems_any (v:Value) (l:List Itm) (w:World) (hv:ItmsRow w v l) (hok:∀ i∈l,ItmOk i) (hl:l.length≤1000) :
  Calls Tryz.prog 129 #[v] w fun e w'=>(∃ v',e = .returned v'∧ItmsRow w' v' l)∧Below w.heap.size w w':=by
 obtain ⟨L,rfl,hrow,hits⟩:=hv
 rw [List.length_map] at hl
 have HOK:Hid (∀ Q:List ItmV,Q.map (·.i)=L.map (·.i)→∀ x∈Q,ItmOk x.i):=fun Q hQ x hx=>hok x.i (by rw [←hQ];exact List.mem_map.2 ⟨x,hx,rfl⟩)
 have CC:=Lib.hid (ItmsClone_any v L.length (L.flatMap itmvCells) w hrow (flat_length itmvCells 10 (fun _=>rfl) L) (flat_one fun x hx=>by
  obtain ⟨_,_,h1⟩:=Row.form (hits x hx).b
  obtain ⟨_,_,h2⟩:=Row.form (hits x hx).g
  obtain ⟨_,_,h3⟩:=Row.form (hits x hx).p
  exact itmv_one ⟨_,_,_,h1⟩ ⟨_,_,_,h2⟩ ⟨_,_,_,h3⟩) (by omega))
 have HITS:=Lib.hid hits
 clear hrow hits hok
 go_enter Tryz.func129,Tryz.ntmps129
 go_upto_block 3 with (go_at_call 157;refine CC.out.mono ?_;rintro e w1 ⟨⟨v1,rfl,ho1⟩,hb1⟩;obtain ⟨va,vc,hv1,-⟩:=Row.of_owns ho1;subst hv1;have HO1:=Lib.hid ho1;have HB1:=Lib.hid hb1;clear ho1 hb1)
 go_loopw [9] (fun s9 w'=>∃ (j:Nat) (Q:List ItmV),j≤L.length∧s9 = .int .i64 (j:Int)∧Q.map (·.i)=L.map (·.i)∧w'.ownsRow w.heap.size 173 10 (.slice va L.length vc) L.length (Q.flatMap itmvCells)∧(∀ x∈Q,ItmR w' x)∧Below w.heap.size w w') (fun s9 _=>L.length-(intOf s9).toNat)
 case atStart=>exact ⟨0,L,by omega,rfl,rfl,HO1.out,fun x hx=>(HITS.out x hx).below HB1.out,HB1.out⟩
 case round=>
  obtain ⟨j,Q,hj,rfl,hQ,hown,hits,hbel⟩:=hrel
  have hQl:Q.length=L.length:=by have h:=congrArg List.length hQ;rwa [List.length_map,List.length_map] at h
  have HQ:=Lib.hid hQ
  have HBEL:=Lib.hid hbel
  have HOWN:=Lib.hid hown
  have HIT:=Lib.hid hits
  have hsz:=hbel.size
  clear hbel hits hQ CC HO1 HITS HB1
  by_cases hjl:j<L.length
  ·obtain ⟨g,cap,cur,e1,hwg,hgh⟩:=owns_someI hown (by omega)
   cases e1
   obtain ⟨g',off',e2,hat⟩:=itm_at (Row.of_owns hown) (by omega)
   cases e2
   have hjq:j<Q.length:=by omega
   have hat:=hat j Q[j] (List.getElem?_eq_getElem hjq)
   have hir:=HIT.out Q[j] (List.getElem_mem hjq)
   have hok:=HOK.out Q HQ.out Q[j] (List.getElem_mem hjq)
   have HQJ:Hid (∀ b g p,(((Q.flatMap itmvCells).set (j*10+6) b).set (j*10+7) g).set (j*10+9) p=(Q.set j ⟨Q[j].i,b,g,p⟩).flatMap itmvCells):=fun b g p=>itm_set Q j hjq b g p
   have HMAP:Hid (∀ b g p,(Q.set j ⟨Q[j].i,b,g,p⟩).map (·.i)=Q.map (·.i)):=fun b g p=>by
    rw [List.map_set]
    apply List.ext_getElem
    ·rw [List.length_set]
    ·intro m h1 h2
     rw [List.getElem_set]
     split
     ·rename_i h;subst h;simp
     ·rfl
   clear hown
   generalize hxq:Q[j]=x at *
   have HQX:Hid (Q[j]?=some x):=by show _=_;rw [List.getElem?_eq_getElem hjq,hxq]
   clear hxq
   obtain ⟨i,bv,gv,pv⟩:=x
   obtain ⟨ba,bc,hbv⟩:=Row.form hir.b
   obtain ⟨ga,gc,hgv⟩:=Row.form hir.g
   obtain ⟨pa,pc,hpv⟩:=Row.form hir.p
   dsimp only at hbv hgv hpv hok HQJ HMAP
   subst hbv;subst hgv;subst hpv
   have c0:=hat 0 (by omega)
   have c1:=hat 1 (by omega)
   have c2:=hat 2 (by omega)
   have c3:=hat 3 (by omega)
   have c4:=hat 4 (by omega)
   have c5:=hat 5 (by omega)
   have c6:=hat 6 (by omega)
   have c7:=hat 7 (by omega)
   have c8:=hat 8 (by omega)
   have c9:=hat 9 (by omega)
   simp only [itmvCells,List.getElem?_cons_zero,List.getElem?_cons_succ,Nat.zero_add,Nat.add_zero] at c0 c1 c2 c3 c4 c5 c6 c7 c8 c9
   have hjI:(j:Int)<(L.length:Int):=Int.ofNat_lt.2 hjl
   have hgl:g<wr.heap.size:=hp_lt hgh
   have hz:=heap_new wr (.cells Yz1a 173)
   have hx2:=setRow_heap _ _ _ #[.int .i64 i.kind,.int .u32 i.ssrc,.int .u64 i.ntp,.int .u32 i.time,.int .u32 i.packets,.int .u32 i.octets,.slice ba i.blocks.length bc,.slice ga i.gone.length gc,.int .u32 i.media,.slice pa i.pairs.length pc] _ _ hz
   have HB2:Hid (Below wr.heap.size wr ((wr.alloc (.cells Yz1a 173)).setRow wr.heap.size #[.int .i64 i.kind,.int .u32 i.ssrc,.int .u64 i.ntp,.int .u32 i.time,.int .u32 i.packets,.int .u32 i.octets,.slice ba i.blocks.length bc,.slice ga i.gone.length gc,.int .u32 i.media,.slice pa i.pairs.length pc])):=below_setRow (below_alloc wr _) (Nat.le_refl _) _
   have HIR:=Lib.hid hir
   have hob:=hok.b
   have hog:=hok.g
   have hop:=hok.p
   clear hat hir hok
   go_upto_region 5 with (with_reducible refine store_at 173 (.tmp 4) (.tmp 13) rfl ?_;refine store_rowTo2 rfl 173 (.tmp 4) (.tmp 13) rfl rfl wr.heap.size #[.int .i64 i.kind,.int .u32 i.ssrc,.int .u64 i.ntp,.int .u32 i.time,.int .u32 i.packets,.int .u32 i.octets,.slice ba i.blocks.length bc,.slice ga i.gone.length gc,.int .u32 i.media,.slice pa i.pairs.length pc] rfl rfl 173 Yz1a hz Yo3 Yo3 Yo3 ?_)
   clear hz c0 c1 c2 c3 c4 c5 c6 c7 c8 c9
   generalize ((wr.alloc (.cells Yz1a 173)).setRow wr.heap.size #[.int .i64 i.kind,.int .u32 i.ssrc,.int .u64 i.ntp,.int .u32 i.time,.int .u32 i.packets,.int .u32 i.octets,.slice ba i.blocks.length bc,.slice ga i.gone.length gc,.int .u32 i.media,.slice pa i.pairs.length pc])=w2 at *
   have HCB:Hid (∀ w',Below w2.heap.size w2 w'→Calls Tryz.prog 158 #[.slice ba i.blocks.length bc] w' fun e w''=>(∃ v',e = .returned v'∧w''.ownsRow w'.heap.size 228 7 v' i.blocks.length (i.blocks.flatMap blkCells))∧Below w'.heap.size w' w''):=fun w' h=>BlksClone_any _ _ _ w' (Row.below (Row.below HIR.out.b HB2.out) h) (flat_length blkCells 7 (fun _=>rfl) _) (flat_one fun x _=>blk_one x) (by omega)
   have HCU:Hid (∀ w',Below w2.heap.size w2 w'→Calls Tryz.prog 112 #[.slice ga i.gone.length gc] w' fun e w''=>(∃ v',e = .returned v'∧w''.ownsRow w'.heap.size 66 1 v' i.gone.length (u32s i.gone))∧Below w'.heap.size w' w''):=fun w' h=>U32sClone_any _ _ _ w' (Row.below (Row.below HIR.out.g HB2.out) h) (by rw [u32s_length'];omega) (u32s_oneI _) (by omega)
   have HCP:Hid (∀ w',Below w2.heap.size w2 w'→Calls Tryz.prog 159 #[.slice pa i.pairs.length pc] w' fun e w''=>(∃ v',e = .returned v'∧w''.ownsRow w'.heap.size 226 2 v' i.pairs.length (i.pairs.flatMap pairCells))∧Below w'.heap.size w' w''):=fun w' h=>ParsClone_any _ _ _ w' (Row.below (Row.below HIR.out.p HB2.out) h) (flat_length pairCells 2 (fun _=>rfl) _) (flat_one fun x _=>pair_one x) (by omega)
   have hxs:wr.heap.size<w2.heap.size:=hp_lt hx2
   have KEEP:Hid (∀ w':World,w'.heap[wr.heap.size]?=w2.heap[wr.heap.size]?→w'.cell? ⟨wr.heap.size,6,none⟩=some (.slice ba i.blocks.length bc)∧w'.cell? ⟨wr.heap.size,7,none⟩=some (.slice ga i.gone.length gc)∧w'.cell? ⟨wr.heap.size,9,none⟩=some (.slice pa i.pairs.length pc)):=fun w' h=>
    ⟨by rw [cell_of (h.trans hx2) 6];rfl,by rw [cell_of (h.trans hx2) 7];rfl,by rw [cell_of (h.trans hx2) 9];rfl⟩
   refine wp_region_noPanic ?_
   refine wp_region_held_drew (S:=(fun w'=>w'.cell? ⟨wr.heap.size,6,none⟩=some (.slice ba i.blocks.length bc)∧w'.cell? ⟨wr.heap.size,7,none⟩=some (.slice ga i.gone.length gc)∧w'.cell? ⟨wr.heap.size,9,none⟩=some (.slice pa i.pairs.length pc))) Yo3 ?_ (fun _=>?_)
   ·(try dsimp only)
    exact KEEP.out _ rfl
   refine YA 0 (h:=YA 1 (h:=YA 2 (h:=YA 3 (h:=YA 4 (h:=YA 5 (h:=YA 6 (h:=YA 7 (h:=YA 9 (h:=YA 10 (h:=YA 12 (h:=YA 13 (h:=?_))))))))))))
   refine YHR 8 (h:=fun K hK=>?_)
   go_simp
   refine (HCB.out _ (Below.refl _ _).drew).mono ?_
   rintro e w3 ⟨⟨bv,rfl,ho⟩,hb⟩
   obtain ⟨ba',bc',hv',-⟩:=Row.of_owns ho
   subst hv'
   have HO3:=Lib.hid (Row.of_owns ho)
   have HB3:Hid (Below w2.heap.size w2 w3):=(Below.refl w2.heap.size w2).drew.trans hb
   have HX3:Hid (w3.heap[wr.heap.size]?=w2.heap[wr.heap.size]?):=HB3.out.block _ hxs
   clear ho hb
   go_wp2_with fail
   refine hK.out _ _ ?_ (fun _=>?_)
   ·exact Yx46
   clear hK K
   try simp only [AnyT.pt]
   refine YHR 11 (h:=fun K hK=>?_)
   go_simp
   refine (HCU.out _ HB3.out).mono ?_
   rintro e w4 ⟨⟨gv,rfl,ho⟩,hb⟩
   obtain ⟨ga',gc',hv',-⟩:=Row.of_owns ho
   subst hv'
   have HO4:=Lib.hid (Row.of_owns ho)
   have HB34:Hid (Below w3.heap.size w3 w4):=hb
   have HB4:Hid (Below w2.heap.size w2 w4):=HB3.out.trans (hb.mono HB3.out.size)
   have HX4:Hid (w4.heap[wr.heap.size]?=w2.heap[wr.heap.size]?):=HB4.out.block _ hxs
   clear ho hb
   go_wp2_with fail
   refine hK.out _ _ ?_ (fun _=>?_)
   ·exact Yx46
   clear hK K
   try simp only [AnyT.pt]
   refine YHR 14 (h:=fun K hK=>?_)
   go_simp
   refine (HCP.out _ HB4.out).mono ?_
   rintro e w5 ⟨⟨pv,rfl,ho⟩,hb⟩
   obtain ⟨pa',pc',hv',-⟩:=Row.of_owns ho
   subst hv'
   have HO5:=Lib.hid (Row.of_owns ho)
   have HB45:Hid (Below w4.heap.size w4 w5):=hb
   have HB5:Hid (Below w2.heap.size w2 w5):=HB4.out.trans (hb.mono HB4.out.size)
   have HX5:Hid (w5.heap[wr.heap.size]?=w2.heap[wr.heap.size]?):=HB5.out.block _ hxs
   have HBR:Hid (Below wr.heap.size wr w5):=HB2.out.trans (HB5.out.mono HB2.out.size)
   have hgh5:w5.heap[g]?=some (.cells cur 173):=(HBR.out.block g hgl).trans hgh
   have h5o:=owns_bel HOWN.out HBR.out
   obtain ⟨g5,off5,e3,hat5⟩:=itm_at (Row.of_owns h5o) (by omega)
   cases e3
   have hat5:=hat5 j _ HQX.out
   have k6:=hat5 6 (by omega)
   have k7:=hat5 7 (by omega)
   have k9:=hat5 9 (by omega)
   simp only [itmvCells,List.getElem?_cons_zero,List.getElem?_cons_succ,Nat.zero_add] at k6 k7 k9
   have f6:w5.frozen? ⟨g,j*10+6,none⟩=false:=frozen_of hgh5 _
   have f7:w5.frozen? ⟨g,j*10+7,none⟩=false:=frozen_of hgh5 _
   have f9:w5.frozen? ⟨g,j*10+9,none⟩=false:=frozen_of hgh5 _
   have hxg:wr.heap.size≠g:=by omega
   clear ho hb hat5
   go_wp2_with fail
   refine hK.out _ _ ?_ (fun _=>?_)
   ·exact Yx46
   clear hK K
   try simp only [AnyT.pt]
   refine YA 15 (h:=YA 16 (h:=?_))
   refine YHR 17 (h:=fun K hK=>?_)
   go_simp
   have HX6:Hid ((w5.setCell ⟨g,j*10+6,none⟩ (.slice ba' i.blocks.length bc')).heap[wr.heap.size]?=w2.heap[wr.heap.size]?):=(RowKit.Below.heap_setCell w5 ⟨g,j*10+6,none⟩ _ wr.heap.size hxg).trans HX5.out
   have k7':(w5.setCell ⟨g,j*10+6,none⟩ (.slice ba' i.blocks.length bc')).cell? ⟨g,j*10+7,none⟩=some (.slice ga i.gone.length gc):=(World.cell?_setCell_other _ _ _ _ (by simp)).trans k7
   have f7':(w5.setCell ⟨g,j*10+6,none⟩ (.slice ba' i.blocks.length bc')).frozen? ⟨g,j*10+7,none⟩=false:=frozen_of (hp_set hgh5 _ _) _
   refine hK.out _ _ ?_ (fun _=>?_)
   ·exact Yx46
   clear hK K
   try simp only [AnyT.pt]
   refine YA 18 (h:=YA 19 (h:=?_))
   refine YHR 20 (h:=fun K hK=>?_)
   go_simp
   have HX7:Hid (((w5.setCell ⟨g,j*10+6,none⟩ (.slice ba' i.blocks.length bc')).setCell ⟨g,j*10+7,none⟩ (.slice ga' i.gone.length gc')).heap[wr.heap.size]?=w2.heap[wr.heap.size]?):=(RowKit.Below.heap_setCell (w5.setCell ⟨g,j*10+6,none⟩ (.slice ba' i.blocks.length bc')) ⟨g,j*10+7,none⟩ _ wr.heap.size hxg).trans HX6.out
   have k9':((w5.setCell ⟨g,j*10+6,none⟩ (.slice ba' i.blocks.length bc')).setCell ⟨g,j*10+7,none⟩ (.slice ga' i.gone.length gc')).cell? ⟨g,j*10+9,none⟩=some (.slice pa i.pairs.length pc):=(World.cell?_setCell_other _ _ _ _ (by simp)).trans ((World.cell?_setCell_other _ _ _ _ (by simp)).trans k9)
   have f9':((w5.setCell ⟨g,j*10+6,none⟩ (.slice ba' i.blocks.length bc')).setCell ⟨g,j*10+7,none⟩ (.slice ga' i.gone.length gc')).frozen? ⟨g,j*10+9,none⟩=false:=frozen_of (hp_set (hp_set hgh5 _ _) _ _) _
   refine hK.out _ _ ?_ (fun _=>?_)
   ·exact Yx46
   clear hK K
   try simp only [AnyT.pt]
   refine YA 21 (h:=YA 22 (h:=?_))
   refine YHR 23 (h:=fun K hK=>?_)
   go_simp
   have HX8:Hid ((((w5.setCell ⟨g,j*10+6,none⟩ (.slice ba' i.blocks.length bc')).setCell ⟨g,j*10+7,none⟩ (.slice ga' i.gone.length gc')).setCell ⟨g,j*10+9,none⟩ (.slice pa' i.pairs.length pc')).heap[wr.heap.size]?=w2.heap[wr.heap.size]?):=(RowKit.Below.heap_setCell ((w5.setCell ⟨g,j*10+6,none⟩ (.slice ba' i.blocks.length bc')).setCell ⟨g,j*10+7,none⟩ (.slice ga' i.gone.length gc')) ⟨g,j*10+9,none⟩ _ wr.heap.size hxg).trans HX7.out
   refine hK.out _ _ ?_ (fun _=>?_)
   ·exact Yx46
   clear hK K
   try simp only [AnyT.pt]
   refine wpAnyH_done Yo3 ?_ _
   refine NoPanic.normal ?_
   go_wp2_with fail
   go_roundw
   case rel=>
    have e0:Below w.heap.size w w5:=HBEL.out.trans (HBR.out.mono hsz)
    have e1:Below w.heap.size w (((w5.setCell ⟨g,j*10+6,none⟩ (.slice ba' i.blocks.length bc')).setCell ⟨g,j*10+7,none⟩ (.slice ga' i.gone.length gc')).setCell ⟨g,j*10+9,none⟩ (.slice pa' i.pairs.length pc')):=((((Fr.of_below NoB e0).setCell (p:=⟨g,j*10+6,none⟩) (Or.inl hwg) _).setCell (p:=⟨g,j*10+7,none⟩) (Or.inl hwg) _).setCell (p:=⟨g,j*10+9,none⟩) (Or.inl hwg) _).below
    have e2:=owns_setI (owns_setI (owns_setI h5o (by omega) (j*10+6) (.slice ba' i.blocks.length bc')) (by omega) (j*10+7) (.slice ga' i.gone.length gc')) (by omega) (j*10+9) (.slice pa' i.pairs.length pc')
    rw [HQJ.out] at e2
    have g6:=hp_set hgh5 (j*10+6) (.slice ba' i.blocks.length bc')
    have g7:=hp_set g6 (j*10+7) (.slice ga' i.gone.length gc')
    refine ⟨j+1,_,by omega,by go_num,(HMAP.out _ _ _).trans HQ.out,e2,fun x hx=>?_,e1⟩
    rcases List.mem_or_eq_of_mem_set hx with hx|rfl
    ·exact ((((HIT.out x hx).below HBR.out).setAt hgh5 _ _).setAt g6 _ _).setAt g7 _ _
    ·have hn:ItmR w5 ⟨i,(.slice ba' i.blocks.length bc'),(.slice ga' i.gone.length gc'),(.slice pa' i.pairs.length pc')⟩:=⟨Row.below (Row.below HO3.out HB34.out) HB45.out,Row.below HO4.out HB45.out,HO5.out⟩
     exact ((hn.setAt hgh5 _ _).setAt g6 _ _).setAt g7 _ _
   case measure=>simp [intOf];omega
  ·have hjj:j=L.length:=by omega
   have HMQ:Hid (ItmsRow wr (.slice va L.length vc) (L.map (·.i))):=⟨Q,HQ.out.symm,by rw [hQl];exact Row.of_owns HOWN.out,HIT.out⟩
   clear hown
   go_wp2
   go_ret
   exact ⟨⟨_,rfl,HMQ.out⟩,HBEL.out⟩
end Go.Proofs.By
set_option linter.unusedSimpArgs false
namespace Go.Proofs.By
open Go.RowKit Go.Proofs.Heap
theorem at8_short {b:List UInt8} (h:b.length<2):at8 b 1=0:=by
 unfold at8
 rw [List.getD_eq_getElem?_getD,List.getElem?_eq_none (by omega)]
 rfl
set_option maxRecDepth 100000 in
set_option maxHeartbeats 2000000 in
theorem siftOf_any (v:Value) (b:List UInt8) (w:World) (hv:BRow w v b) :
  Calls Tryz.prog 105 #[v] w fun e w'=>(∃ a,e = .returned (.tuple #[a,.int .i64 (sift b).2])∧EvIn w' a (sift b).1)∧Below w.heap.size w w':=by
 by_cases h3:192≤at8 b 1∧at8 b 1≤223
 rotate_left
 ·exact siftOf_plain v b w hv h3
 have hlen:=hv.len
 have h2:¬b.length<2:=fun h=>by rw [at8_short h] at h3;omega
 by_cases h1:512<b.length
 ·have HX:Hid (sift b=(.none,5)):=by show _=_;unfold sift;rw [if_pos h1]
  exact Yx74
 have HX:Hid (sift b=if (itemsGet b).2≠0 then (.none,(itemsGet b).2) else (.feedback (itemsGet b).1,0)):=by
  show _=_
  conv=>lhs;unfold sift
  rw [if_neg h1,if_neg h2,if_pos h3]
 have HC:=Lib.hid (rtcpGet_any v b w hv)
 obtain ⟨g,off,c,rfl,hcc,hmx,hbl⟩:=b_at hv (by omega)
 have d1:=hbl 1 (by omega)
 clear hbl hv hcc hmx
 have hbI:(1:Int)<(b.length:Int):=by omega
 have hbN:1<b.length:=by omega
 generalize sift b=X at *
 generalize itemsGet b=Y at *
 obtain ⟨L,er⟩:=Y
 dsimp only at HC HX
 have hmk:=fun (x:Value) (w:World)=>run_makeInterface (P:=Tryz.prog) w 213 x Yo3
 obtain ⟨hk1,hk2⟩:=h3
 generalize at8 b 1=kd at *
 have l1:decide ((192:Int)≤(kd:Int))=true:=decide_eq_true (by omega)
 have l2:decide ((kd:Int)≤223)=true:=decide_eq_true (by omega)
 go_enter Tryz.func105,Tryz.ntmps105
 go_upto_region 7 with (go_at_call 124;refine HC.out.mono ?_;rintro e w2 ⟨⟨iv,rfl,hit⟩,hb2⟩;obtain ⟨ia,ic,hiv⟩:=ItmsRow.form hit;subst hiv;have HIT:=Lib.hid hit;have HB2:=Lib.hid hb2;clear hit hb2)
 clear HC
 by_cases her:er=0
 ·subst her
  rw [if_neg (by simp)] at HX
  go_wp2_with fail
  go_ret2
  exact ⟨⟨_,by rw [HX.out];rfl,by rw [HX.out];exact ⟨_,rfl,HIT.out⟩⟩,HB2.out⟩
 ·have bl:(er != 0)=true:=by rw [bne_iff_ne];exact her
  have bl2:(er == 0)=false:=by rw [beq_eq_false_iff_ne];exact her
  rw [if_pos her] at HX
  go_wp2_with fail
  go_ret2
  exact ⟨⟨.nilIface,by rw [HX.out];rfl,by rw [HX.out];rfl⟩,HB2.out⟩
end Go.Proofs.By
set_option linter.unusedSimpArgs false
namespace Go.Proofs.By
open Go.RowKit Go.Proofs.Heap
theorem as_media (v:Value) (w:World):(Instr.typeAssert (.iface 213 v) 188 97 true).run Tryz.prog w = .ok (.tuple #[.agg Yz4a,.bool false]) w:=by kernel_rfl
theorem as_feed (v:Value) (w:World):(Instr.typeAssert (.iface 213 v) 188 213 true).run Tryz.prog w = .ok (.tuple #[v,.bool true]) w:=by kernel_rfl
theorem results_cells2 {P:Program} {fn:Func} {p q u:Tmp} {t1 t2:TypeId} (h:fn.results=#[.cell p t1,.cell q t2,.tmp u]) (tmps:Array Value) (w:World) (g1 g2:Nat) (e1 e2:TypeId) (c1 c2:Array Value) (f1 f2:Nat × Nat) (d1 d2:TypeDesc)
  (hp:tmps.getD p undef = .pointer (some ⟨g1,0,none⟩)) (hg:w.heap[g1]?=some (.cells c1 e1 f1)) (hu:P.underlying t1=some d1) (hd:(match d1 with | .struct _ | .array _ _=>true|_=>false)=true) (hi:(P.info? t1).map (·.size)=some c1.size)
  (hp2:tmps.getD q undef = .pointer (some ⟨g2,0,none⟩)) (hg2:w.heap[g2]?=some (.cells c2 e2 f2)) (hu2:P.underlying t2=some d2) (hd2:(match d2 with | .struct _ | .array _ _=>true|_=>false)=true) (hi2:(P.info? t2).map (·.size)=some c2.size) :
  (results fn tmps).run P w = .ok (.tuple #[.agg c1,.agg c2,tmps.getD u undef]) w:=by
 have hp':tmps[p]?.getD undef = .pointer (some ⟨g1,0,none⟩):=by simpa using hp
 have hq':tmps[q]?.getD undef = .pointer (some ⟨g2,0,none⟩):=by simpa using hp2
 simp [results,h,hp',hq',asAddr,run_loadVar_row w g1 e1 t1 c1 f1 d1 hg hu hd hi,run_loadVar_row w g2 e2 t2 c2 f2 d2 hg2 hu2 hd2 hi2]
set_option maxRecDepth 100000 in
set_option maxHeartbeats 4000000 in
theorem Flat_any (iv:Value) (l:List Itm) (w:World) (hv:ItmsRow w iv l) (hok:∀ i∈l,ItmOk i) (hl:l.length≤1000) :
  Calls Tryz.prog 107 #[.iface 213 (.agg #[iv])] w fun e w'=>(∃ v',e = .returned (.tuple #[.agg Yz3a,.agg #[.int .i64 0,.bool false,.bool false,.int .u16 0],v'])∧ItmsRow w' v' l)∧Below w.heap.size w w':=by
 obtain ⟨ia,ic,rfl⟩:=ItmsRow.form hv
 have CO:=Lib.hid (fun (w':World) (h:Below w.heap.size w w')=>OwnItems_any (.slice ia l.length ic) l w' (hv.below h) hok hl)
 have as1:=as_media
 have as2:=as_feed
 have e1:(w.alloc (.cells Yz3a 79)).heap.size=w.heap.size+1:=by show (w.heap.push _).size=_;rw [Array.size_push]
 have e2:((w.alloc (.cells Yz3a 79)).alloc (.cells #[.int .i64 0,.bool false,.bool false,.int .u16 0] 81)).heap.size=w.heap.size+2:=by show ((w.heap.push _).push _).size=_;rw [Array.size_push,Array.size_push]
 have e3:(((w.alloc (.cells Yz3a 79)).alloc (.cells #[.int .i64 0,.bool false,.bool false,.int .u16 0] 81)).alloc (.cells Yz4a 97)).heap.size=w.heap.size+3:=by show (((w.heap.push _).push _).push _).size=_;rw [Array.size_push,Array.size_push,Array.size_push]
 have hP:(((w.alloc (.cells Yz3a 79)).alloc (.cells #[.int .i64 0,.bool false,.bool false,.int .u16 0] 81)).alloc (.cells Yz4a 97)).heap[w.heap.size]?=some (.cells Yz3a 79 (0,0)):=by
  rw [(below_alloc ((w.alloc (.cells Yz3a 79)).alloc (.cells #[.int .i64 0,.bool false,.bool false,.int .u16 0] 81)) _).block _ (by rw [e2];omega),(below_alloc (w.alloc (.cells Yz3a 79)) _).block _ (by rw [e1];omega)]
  exact heap_new w _
 have hD:(((w.alloc (.cells Yz3a 79)).alloc (.cells #[.int .i64 0,.bool false,.bool false,.int .u16 0] 81)).alloc (.cells Yz4a 97)).heap[w.heap.size+1]?=some (.cells #[.int .i64 0,.bool false,.bool false,.int .u16 0] 81 (0,0)):=by
  rw [(below_alloc ((w.alloc (.cells Yz3a 79)).alloc (.cells #[.int .i64 0,.bool false,.bool false,.int .u16 0] 81)) _).block _ (by rw [e2];omega)]
  have h:=heap_new (w.alloc (.cells Yz3a 79)) (.cells #[.int .i64 0,.bool false,.bool false,.int .u16 0] 81)
  rw [e1] at h
  exact h
 have hM:(((w.alloc (.cells Yz3a 79)).alloc (.cells #[.int .i64 0,.bool false,.bool false,.int .u16 0] 81)).alloc (.cells Yz4a 97)).heap[w.heap.size+2]?=some (.cells Yz4a 97 (0,0)):=by
  have h:=heap_new ((w.alloc (.cells Yz3a 79)).alloc (.cells #[.int .i64 0,.bool false,.bool false,.int .u16 0] 81)) (.cells Yz4a 97)
  rw [e2] at h
  exact h
 have hP2:((((w.alloc (.cells Yz3a 79)).alloc (.cells #[.int .i64 0,.bool false,.bool false,.int .u16 0] 81)).alloc (.cells Yz4a 97)).setRow (w.heap.size+2) Yz4a).heap[w.heap.size]?=some (.cells Yz3a 79 (0,0)):=(setRow_other _ _ _ _ (by omega)).trans hP
 have hD2:((((w.alloc (.cells Yz3a 79)).alloc (.cells #[.int .i64 0,.bool false,.bool false,.int .u16 0] 81)).alloc (.cells Yz4a 97)).setRow (w.heap.size+2) Yz4a).heap[w.heap.size+1]?=some (.cells #[.int .i64 0,.bool false,.bool false,.int .u16 0] 81 (0,0)):=(setRow_other _ _ _ _ (by omega)).trans hD
 have HBD:Hid (Below w.heap.size w ((((w.alloc (.cells Yz3a 79)).alloc (.cells #[.int .i64 0,.bool false,.bool false,.int .u16 0] 81)).alloc (.cells Yz4a 97)).setRow (w.heap.size+2) Yz4a)):=below_setRow (bel_alloc (bel_alloc (below_alloc w _) (Nat.le_refl _) _) (Nat.le_refl _) _) (by omega) _
 clear hv hok hl e1 e2 e3 hP hD
 go_enter Tryz.func107,Tryz.ntmps107
 go_upto_region 4 with (with_reducible refine store_at 97 (.tmp 5) (.tmp 12) rfl ?_;refine store_rowTo2 rfl 97 (.tmp 5) (.tmp 12) rfl rfl (w.heap.size+2) Yz4a rfl rfl 97 Yz4a hM Yo3 Yo3 Yo3 ?_)
 clear hM
 generalize ((((w.alloc (.cells Yz3a 79)).alloc (.cells #[.int .i64 0,.bool false,.bool false,.int .u16 0] 81)).alloc (.cells Yz4a 97)).setRow (w.heap.size+2) Yz4a)=w3 at *
 have hl3:=hp_lt hP2
 have hl4:=hp_lt hD2
 have HB4:Hid (Below w3.heap.size w3 (w3.alloc (.cells #[.slice ia l.length ic] 213))):=below_alloc w3 _
 have HBE:Hid (Below w.heap.size w (w3.alloc (.cells #[.slice ia l.length ic] 213))):=HBD.out.trans (HB4.out.mono HBD.out.size)
 have hP4:=(HB4.out.block _ hl3).trans hP2
 have hD4:=(HB4.out.block _ hl4).trans hD2
 have hl5:=hp_lt hP4
 have hl6:=hp_lt hD4
 clear hP2 hD2 hl3 hl4
 go_wp2_with (first|(go_at_call 129;refine (CO.out _ HBE.out).mono ?_;rintro e w5 ⟨⟨v',rfl,hit⟩,hb5⟩;obtain ⟨ja,jc,hjv⟩:=ItmsRow.form hit;subst hjv;have hP5:=(hb5.block _ hl5).trans hP4;have hD5:=(setRow_other w5 w.heap.size (w.heap.size+1) Yz3a (by omega)).trans ((hb5.block _ hl6).trans hD4);have HBW:=Lib.hid (HBE.out.trans (hb5.mono HBE.out.size));have HIT:=Lib.hid hit;clear hb5 hit)|(with_reducible refine store_at 79 (.tmp 2) (.tmp 26) rfl ?_;refine store_rowTo2 rfl 79 (.tmp 2) (.tmp 26) rfl rfl w.heap.size Yz3a rfl rfl 79 Yz3a hP5 Yo3 Yo3 Yo3 ?_)|(with_reducible refine store_at 81 (.tmp 3) (.tmp 27) rfl ?_;refine store_rowTo2 rfl 81 (.tmp 3) (.tmp 27) rfl rfl (w.heap.size+1) #[.int .i64 0,.bool false,.bool false,.int .u16 0] rfl rfl 81 #[.int .i64 0,.bool false,.bool false,.int .u16 0] hD5 Yo3 Yo3 Yo3 ?_))
 refine bodyPost_ret (v:= .tuple #[.agg Yz3a,.agg #[.int .i64 0,.bool false,.bool false,.int .u16 0],.slice ja l.length jc]) ?_ rfl ?_
 ·refine (results_cells2 (p:=2) (q:=3) (u:=4) (t1:=79) (t2:=81) rfl _ _ w.heap.size (w.heap.size+1) 79 81 Yz3a #[.int .i64 0,.bool false,.bool false,.int .u16 0] (0,0) (0,0) _ _ (by rfl) ((setRow_other _ _ _ _ (by omega)).trans (setRow_heap _ _ _ _ _ _ hP5)) Tryz.underlying79 rfl Yo3 (by rfl) (setRow_heap _ _ _ _ _ _ hD5) Tryz.underlying81 rfl Yo3).trans ?_
  rfl
 refine ⟨⟨_,rfl,?_⟩,below_setRow (below_setRow HBW.out (Nat.le_refl _) _) (Nat.le_succ _) _⟩
 have k1:ItmsRow (w5.setRow w.heap.size Yz3a) (.slice ja l.length jc) l:=HIT.out.fr (fr_setRow w5 _ _) (fun k hk=>by have hk:k=w.heap.size:=hk;subst hk;exact ⟨_,_,_,hP5,by decide,by decide,by decide,by decide,by decide,by decide,by decide⟩)
 exact k1.fr (fr_setRow _ _ _) (fun k hk=>by have hk:k=w.heap.size+1:=hk;subst hk;exact ⟨_,_,_,hD5,by decide,by decide,by decide,by decide,by decide,by decide,by decide⟩)
end Go.Proofs.By
set_option linter.unusedSimpArgs false
namespace Go.Proofs.By
open Go.RowKit Go.Proofs.Heap
open Go.Proofs.Rm (inn)
theorem sin8_any (n:Int) (w:World):Calls Tryz.prog 66 #[.int .i64 n,.int .i64 8] w fun e w'=>e = .returned (.bool (inn n 9))∧w=w':=by
 have HW:Hid (inn n 9=(decide (1≤n) && decide (n<9))):=rfl
 generalize inn n 9=x at *
 by_cases h1:1≤n
 ·have HF:Hid (x=decide (n≤8)):=by show _=_;rw [HW.out,decide_eq_true h1];simp only [Bool.true_and];exact decide_eq_decide.2 (by omega)
  have d1:decide (1≤n)=true:=decide_eq_true h1
  clear HW
  go_enter Tryz.func66,Tryz.ntmps66
  go_wp2
  go_ret
  exact ⟨ret_bool HF.out.symm,rfl⟩
 ·have HF:Hid (x=false):=by show _=_;rw [HW.out,decide_eq_false h1];simp
  have d1:decide (1≤n)=false:=decide_eq_false h1
  clear HW
  go_enter Tryz.func66,Tryz.ntmps66
  go_wp2
  go_ret
  exact ⟨ret_bool HF.out.symm,rfl⟩
theorem ret_u32 {a b:Int} (h:a=b):Ending.returned (.int .u32 a) = .returned (.int .u32 b):=by rw [h]
theorem sOut_any (p s:Int) (w:World):Calls Tryz.prog 37 #[.int .i64 p,.int .i64 s] w fun e w'=>e = .returned (.int .u32 (outOf p s))∧w=w':=by
 have CP:=Lib.hid (sin8_any p w)
 have CS:=Lib.hid (sin8_any s w)
 cases h1:inn p 9
 ·have HF:Hid (outOf p s=0):=by show _=_;unfold outOf;rw [h1];rfl
  rw [h1] at CP
  generalize outOf p s=x at *
  clear CS h1
  go_enter Tryz.func37,Tryz.ntmps37
  go_wp2_with (go_at_call 66;refine CP.out.mono ?_;rintro e w' ⟨rfl,rfl⟩)
  go_ret
  exact ⟨ret_u32 HF.out.symm,rfl⟩
 ·cases h2:inn s 9
  ·have HF:Hid (outOf p s=0):=by show _=_;unfold outOf;rw [h1,h2];rfl
   rw [h1] at CP
   rw [h2] at CS
   generalize outOf p s=x at *
   clear h1 h2
   go_enter Tryz.func37,Tryz.ntmps37
   go_wp2_with fail
   refine CP.out.mono ?_;rintro e w' ⟨rfl,rfl⟩
   go_wp2_with fail
   refine CS.out.mono ?_;rintro e w' ⟨rfl,rfl⟩
   go_wp2_with fail
   go_ret
   exact ⟨ret_u32 HF.out.symm,rfl⟩
  ·have HF:Hid (outOf p s=3221225472+(256*p+s)):=by show _=_;unfold outOf;rw [h1,h2];rfl
   rw [h1] at CP
   rw [h2] at CS
   obtain ⟨b1,b2⟩:=inn_iff.1 h1
   obtain ⟨b3,b4⟩:=inn_iff.1 h2
   generalize outOf p s=x at *
   clear h1 h2
   go_enter Tryz.func37,Tryz.ntmps37
   go_wp2_with fail
   refine CP.out.mono ?_;rintro e w' ⟨rfl,rfl⟩
   go_wp2_with fail
   refine CS.out.mono ?_;rintro e w' ⟨rfl,rfl⟩
   go_wp2_with fail
   go_ret
   exact ⟨ret_u32 (by rw [HF.out]),rfl⟩
theorem sWhose_any (x:Int) (w:World) (h0:0≤x) (h1:x<4294967296) :
  Calls Tryz.prog 160 #[.int .u32 x] w fun e w'=>e = .returned (.tuple #[.int .i64 (whose x).1,.int .i64 (whose x).2.1,.bool (whose x).2.2])∧w=w':=by
 have hw:IntKind.u32.wrap (x-3221225472)=(x+1073741824) % 4294967296:=by rw [IntKind.wrap_u32];omega
 have HE:Hid (whose x=if inn ((x+1073741824) % 4294967296 / 256) 9 && inn ((x+1073741824) % 4294967296 % 256) 9 then ((x+1073741824) % 4294967296 / 256,(x+1073741824) % 4294967296 % 256,true) else (0,0,false)):=rfl
 have hx:∀ n:Int,n=(x+1073741824) % 4294967296→inn (n / 256) 9=true→inn (n % 256) 9=true→3221225472+(256*(n / 256)+n % 256)=x:=fun n hn ha hb=>by
  rw [inn_iff] at ha hb;omega
 have hb0:0≤(x+1073741824) % 4294967296:=by omega
 have hb1:(x+1073741824) % 4294967296<4294967296:=by omega
 generalize whose x=X at *
 generalize (x+1073741824) % 4294967296=n at *
 have CO:=Lib.hid (sOut_any (n / 256) (n % 256) w)
 have hq0:0≤n / 256:=by omega
 have hq1:n / 256<16777216:=by omega
 have hr0:0≤n % 256:=by omega
 have hr1:n % 256<256:=by omega
 by_cases hc:(inn (n / 256) 9 && inn (n % 256) 9)=true
 ·have hX:X=(n / 256,n % 256,true):=by rw [HE.out,if_pos hc]
  subst hX
  have hc':=hc
  rw [Bool.and_eq_true] at hc'
  have e:outOf (n / 256) (n % 256)=x:=by unfold outOf;rw [if_pos hc,hx n rfl hc'.1 hc'.2]
  rw [e] at CO
  have hne:3221225472≤x:=by have:=hx n rfl hc'.1 hc'.2;omega
  have b1:(x == 0)=false:=by rw [beq_eq_false_iff_ne];omega
  have b2:(x != x)=false:=by simp
  clear HE hx hc hc' e
  exact Yx138
 ·have hX:X=(0,0,false):=by rw [HE.out,if_neg hc]
  subst hX
  have e:outOf (n / 256) (n % 256)=0:=by unfold outOf;rw [if_neg hc]
  rw [e] at CO
  clear HE hx hc e
  exact Yx138
end Go.Proofs.By
set_option linter.unusedSimpArgs false
namespace Go.Proofs.By
open Go.RowKit Go.Proofs.Heap
open Go.Proofs.Rm (TurnRow Turn Room RoomAt Inv of of_some of_lt Of_any Source_any Sub_any hears)
set_option maxHeartbeats 2000000 in
theorem Owned_any (b:Nat) (R:Room) (peer x:Int) (w:World) (hR:RoomAt w b R) (hI:Inv R) (hl:∀ n,(R.src n).ss.length≤1000000) :
  Calls Tryz.prog 130 #[.pointer (some ⟨b,0,none⟩),.int .i64 peer,.int .u32 x] w fun e w'=>(∃ n l:Int,e = .returned (.tuple #[.int .i64 n,.int .i64 l,.bool (owned R peer x)]))∧Below w.heap.size w w':=by
 obtain ⟨n,O2,O3,hO⟩:∃ (n:Nat) (O2:Int) (O3:Bool),of R x=((n:Int),O2,O3):=⟨(of R x).1.toNat,(of R x).2.1,(of R x).2.2,by rw [Int.toNat_of_nonneg (of_lt R x).1]⟩
 have HX:Hid (owned R peer x=(O3 && decide ((R.src n).own=peer))):=by
  show _=_
  unfold owned
  rw [hO]
  rfl
 have HTH:Hid (O3=true→(R.src n).there=true):=by
  show _→_
  intro h3
  obtain ⟨m,_,h1,_,h2⟩:=of_some (R:=R) (x:=x) (by rw [hO];exact h3)
  rw [hO] at h2
  have h4:(n:Int)=(m:Int):=congrArg (·.1) h2
  have h4:n=m:=by omega
  rw [h4];exact h1
 have COF:Hid (Calls Tryz.prog 127 #[.pointer (some ⟨b,0,none⟩),.int .u32 x] w fun e w'=>e = .returned (.tuple #[.int .i64 (n:Int),.int .i64 O2,.bool O3])∧Below w.heap.size w w'):=by
  have h:=Of_any b R x w hR
  rw [hO] at h
  exact h
 have CSR:=Lib.hid (fun (w2:World) (h:Below w.heap.size w w2)=>Source_any b R n w2 (hR.below h) hI hl)
 generalize owned R peer x=X at *
 clear hO hR hI hl
 cases O3 with
 | false=>
  have HX0:Hid (X=false):=by show _=_;rw [HX.out];rfl
  clear HX HTH
  go_enter Tryz.func130,Tryz.ntmps130
  go_wp2_with (first|(go_at_call 127;refine COF.out.mono ?_;rintro e w2 ⟨rfl,hb2⟩;have HB2:=Lib.hid hb2;clear hb2)|(go_at_call 81;refine (CSR.out _ HB2.out).mono ?_;rintro e w3 ⟨⟨nm,ow,a,k,c,mu,has,rfl,hhas,how⟩,hb3⟩;have HB3:=Lib.hid (HB2.out.trans (hb3.mono HB2.out.size));clear hb3 hhas how))
  go_ret3
  exact ⟨⟨0,0,by rw [HX0.out];rfl⟩,bel_alloc HB3.out (Nat.le_refl _) _⟩
 | true=>
  by_cases hp:(R.src n).own=peer
  ·have HX0:Hid (X=true):=by show _=_;rw [HX.out,decide_eq_true hp];rfl
   have HP:=Lib.hid hp
   clear HX hp
   go_enter Tryz.func130,Tryz.ntmps130
   go_wp2_with (first|(go_at_call 127;refine COF.out.mono ?_;rintro e w2 ⟨rfl,hb2⟩;have HB2:=Lib.hid hb2;clear hb2)|(go_at_call 81;refine (CSR.out _ HB2.out).mono ?_;rintro e w3 ⟨⟨nm,ow,a,k,c,mu,has,rfl,hhas,how⟩,hb3⟩;have HB3:=Lib.hid (HB2.out.trans (hb3.mono HB2.out.size));have how2:ow=peer:=((how (by rw [hhas];exact HTH.out Yo32)).trans HP.out);have hbb:(ow != peer)=false:=(by rw [how2];simp);have hbb2:(ow == peer)=true:=(by rw [how2];simp);clear hb3 hhas how how2))
   go_ret3
   exact ⟨⟨(n:Int),O2,by rw [HX0.out];rfl⟩,bel_alloc HB3.out (Nat.le_refl _) _⟩
  ·have HX0:Hid (X=false):=by show _=_;rw [HX.out,decide_eq_false hp];rfl
   have HP:=Lib.hid hp
   clear HX hp
   go_enter Tryz.func130,Tryz.ntmps130
   go_wp2_with (first|(go_at_call 127;refine COF.out.mono ?_;rintro e w2 ⟨rfl,hb2⟩;have HB2:=Lib.hid hb2;clear hb2)|(go_at_call 81;refine (CSR.out _ HB2.out).mono ?_;rintro e w3 ⟨⟨nm,ow,a,k,c,mu,has,rfl,hhas,how⟩,hb3⟩;have HB3:=Lib.hid (HB2.out.trans (hb3.mono HB2.out.size));have how2:=how (by rw [hhas];exact HTH.out Yo32);have hne:ow≠peer:=(by rw [how2];exact HP.out);have hbb:(ow != peer)=true:=(by rw [bne_iff_ne];exact hne);have hbb2:(ow == peer)=false:=(by rw [beq_eq_false_iff_ne];exact hne);clear hb3 hhas how how2 hne))
   go_ret3
   exact ⟨⟨0,0,by rw [HX0.out];rfl⟩,bel_alloc HB3.out (Nat.le_refl _) _⟩
set_option maxHeartbeats 2000000 in
theorem Heard_any (b:Nat) (R:Room) (peer x:Int) (w:World) (hR:RoomAt w b R) (h0:0≤x) (h1:x<4294967296) :
  Calls Tryz.prog 131 #[.pointer (some ⟨b,0,none⟩),.int .i64 peer,.int .u32 x] w fun e w'=>(∃ n:Int,e = .returned (.tuple #[.int .i64 n,.bool (heardBy R peer x)]))∧Below w.heap.size w w':=by
 have CW:=Lib.hid (sWhose_any x w h0 h1)
 have HX:Hid (heardBy R peer x=((whose x).2.2 && decide ((whose x).1=peer) && hears R peer (whose x).2.1)):=rfl
 generalize whose x=W at *
 obtain ⟨wp,ws,wk⟩:=W
 dsimp only at CW HX
 have CS:=Lib.hid (Sub_any b R peer ws w hR)
 generalize heardBy R peer x=X at *
 generalize hears R peer ws=hv at *
 generalize (R.sub ws.toNat peer.toNat).want=s1 at *
 generalize (R.sub ws.toNat peer.toNat).paused=s2 at *
 clear hR h0 h1
 cases wk with
 | false=>
  have HX0:Hid (X=false):=by show _=_;rw [HX.out];rfl
  clear HX
  cases hv with
  | false=>
   rw [if_neg (by simp)] at CS
   exact Yx29
  | true=>
   rw [if_pos rfl] at CS
   exact Yx29
 | true=>
  by_cases hp:wp=peer
  ·subst hp
   cases hv with
   | false=>
    have HX0:Hid (X=false):=by show _=_;rw [HX.out];simp
    rw [if_neg (by simp)] at CS
    clear HX
    exact Yx29
   | true=>
    have HX0:Hid (X=true):=by show _=_;rw [HX.out];simp
    rw [if_pos rfl] at CS
    clear HX
    go_enter Tryz.func131,Tryz.ntmps131
    go_wp2_with (first|(go_at_call 160;refine CW.out.mono ?_;rintro e w2 ⟨rfl,rfl⟩)|(go_at_call 83;refine CS.out.mono ?_;rintro e w3 ⟨rfl,hb3⟩;have HB3:=Lib.hid hb3;clear hb3))
    go_ret2
    exact ⟨⟨ws,by rw [HX0.out];rfl⟩,bel_alloc HB3.out (Nat.le_refl _) _⟩
  ·have HX0:Hid (X=false):=by show _=_;rw [HX.out,decide_eq_false hp];simp
   have hbb:(wp != peer)=true:=by rw [bne_iff_ne];exact hp
   have hbb2:(wp == peer)=false:=by rw [beq_eq_false_iff_ne];exact hp
   clear HX hp
   cases hv with
   | false=>
    rw [if_neg (by simp)] at CS
    exact Yx29
   | true=>
    rw [if_pos rfl] at CS
    exact Yx29
end Go.Proofs.By
set_option linter.unusedSimpArgs false
namespace Go.Proofs.By
open Go.RowKit Go.Proofs.Heap
open Go.Proofs.Rm (TurnRow Turn Room RoomAt Inv Slim u32s turnCells elemTurn turns_len turns_one owns_fr own_le goneOp Gone_any inv_goneOp slim_goneOp)
theorem take_snocG {l:List Int} {k:Nat} (h:k<l.length):l.take (k+1)=l.take k++[l.getD k 0]:=by
 rw [List.take_succ_eq_append_getElem h,List.getD_eq_getElem?_getD,List.getElem?_eq_getElem h];rfl
set_option maxRecDepth 100000 in
set_option maxHeartbeats 4000000 in
theorem ItemDo_any (b:Nat) (R:Room) (peer:Int) (x:ItmV) (w:World) (hR:RoomAt w b R) (hI:Inv R) (hS:Slim R) (hok:ItmOk x.i) (hx:ItmR w x) :
  Calls Tryz.prog 108 #[.pointer (some ⟨b,0,none⟩),.int .i64 peer,.agg (itmvCells x).toArray] w fun e w'=>
   (∃ v,e = .returned (.tuple #[v,.int .i64 (itemDo R peer x.i).2])∧TurnRow w' v (itemDo R peer x.i).1.1)∧RoomAt w' b (itemDo R peer x.i).1.2∧Fr w.heap.size (· = b) w w':=by
 obtain ⟨i,bv,gv,pv⟩:=x
 obtain ⟨ba,bc,hbv⟩:=Row.form hx.b
 obtain ⟨ga,gc,hgv⟩:=Row.form hx.g
 obtain ⟨pa,pc,hpv⟩:=Row.form hx.p
 have hgr:=hx.g
 obtain ⟨kd,ss,nt,tm,pk,oc,bs,gn,md,ps⟩:=i
 have hm0:=hok.m0
 have hm1:=hok.m1
 have hgl:=hok.g
 clear hok hx
 dsimp only at hbv hgv hpv hgr hm0 hm1 hgl ⊢
 subst hbv;subst hgv;subst hpv
 dsimp only [itmvCells]
 have HB1:Hid (Below w.heap.size w (w.alloc (.cells #[.int .i64 kd,.int .u32 ss,.int .u64 nt,.int .u32 tm,.int .u32 pk,.int .u32 oc,.slice ba bs.length bc,.slice ga gn.length gc,.int .u32 md,.slice pa ps.length pc] 173))):=below_alloc w _
 have hz:=heap_new w (.cells #[.int .i64 kd,.int .u32 ss,.int .u64 nt,.int .u32 tm,.int .u32 pk,.int .u32 oc,.slice ba bs.length bc,.slice ga gn.length gc,.int .u32 md,.slice pa ps.length pc] 173)
 have HR:=Lib.hid hR
 have HR1:=Lib.hid (hR.below HB1.out)
 have hb:=hR.lt
 have HIT:Hid (itemDo R peer ⟨kd,ss,nt,tm,pk,oc,bs,gn,md,ps⟩=if kd=200 then (([],R),if owned R peer ss then 0 else 1) else if kd=205∨kd=206 then (([],R),if heardBy R peer md then 0 else 1) else if kd=203 then goneAll peer gn R else (([],R),0)):=rfl
 generalize itemDo R peer ⟨kd,ss,nt,tm,pk,oc,bs,gn,md,ps⟩=X at *
 generalize bs.length=bl at *
 generalize ps.length=pl at *
 by_cases k200:kd=200
 ·subst k200
  have HX1:Hid (X=(([],R),if owned R peer ss then 0 else 1)):=by show _=_;rw [HIT.out];simp
  have CO:=Lib.hid (Owned_any b R peer ss _ HR1.out hI hS.short)
  clear HIT hI hS hgr hR hm0 hm1 hgl
  generalize owned R peer ss=O at *
  cases O with
  | false=>
   have HX:Hid (X=(([],R),1)):=by show _=_;rw [HX1.out];rfl
   exact Yx64
  | true=>
   have HX:Hid (X=(([],R),0)):=by show _=_;rw [HX1.out];rfl
   exact Yx64
 by_cases k205:kd=205
 ·subst k205
  exact Yx83
 by_cases k206:kd=206
 ·subst k206
  exact Yx83
 have e1:(kd == 200)=false:=by rw [beq_eq_false_iff_ne];exact k200
 have e2:(kd == 205)=false:=by rw [beq_eq_false_iff_ne];exact k205
 have e3:(kd == 206)=false:=by rw [beq_eq_false_iff_ne];exact k206
 have HX2:Hid (X=if kd=203 then goneAll peer gn R else (([],R),0)):=by show _=_;rw [HIT.out,if_neg k200,if_neg (by omega)]
 clear HIT hm0 hm1
 by_cases k203:kd=203
 rotate_left
 ·have HX:Hid (X=(([],R),0)):=by show _=_;rw [HX2.out,if_neg k203]
  have e4:(kd == 203)=false:=by rw [beq_eq_false_iff_ne];exact k203
  have e5:(kd != 203)=true:=by rw [bne_iff_ne];exact k203
  have HBW:=HB1
  clear HX2 hgr hI hS hR
  go_enter Tryz.func108,Tryz.ntmps108
  go_wp2_with fail
  go_ret2
  exact ⟨⟨.slice none 0 0,by rw [HX.out];rfl,by rw [HX.out];exact Row.nil _ _⟩,by rw [HX.out];exact HR.out.below HBW.out,Fr.of_below _ HBW.out⟩
 subst k203
 have HX:Hid (X=goneAll peer gn R):=by show _=_;rw [HX2.out,if_pos rfl]
 have HGR:=Lib.hid hgr
 have HTY:Hid (∀ k c fr,k=b→w.heap[k]?≠some (.cells c 66 fr)):=hR.typ (by decide)
 have HIV:Hid (∀ j,Inv (goneAll peer (gn.take j) R).1.2∧(goneAll peer (gn.take j) R).1.1.length≤18*(gn.take j).length∧0≤(goneAll peer (gn.take j) R).2∧(goneAll peer (gn.take j) R).2≤(gn.take j).length):=fun j=>by
  have h:=goneAll_ok peer (gn.take j) R hI hS
  exact ⟨h.1,h.2.2⟩
 clear HX2 hgr hI hS e1 e2 e3 k200 k205 k206
 go_enter Tryz.func108,Tryz.ntmps108
 go_wp2_with fail
 go_loopw [6,7,45] (fun s6 s7 s45 w'=>∃ j:Nat,j≤gn.length∧s45 = .int .i64 (j:Int)∧s7 = .int .i64 (goneAll peer (gn.take j) R).2∧Fr w.heap.size (· = b) w w'∧RoomAt w' b (goneAll peer (gn.take j) R).1.2∧w'.ownsRow w.heap.size 158 5 s6 (goneAll peer (gn.take j) R).1.1.length ((goneAll peer (gn.take j) R).1.1.flatMap turnCells)) (fun _ _ s45 _=>gn.length-(intOf s45).toNat)
 case atStart=>exact ⟨0,by omega,rfl,rfl,Fr.of_below _ HB1.out,HR1.out,World.ownsRow_nil _ _ _ _⟩
 case round=>
  obtain ⟨j,hj,rfl,rfl,hfr,hroom,hown⟩:=hrel
  have HFR:=Lib.hid hfr
  have HROOM:=Lib.hid hroom
  have HOWN:=Lib.hid hown
  have hsz:=hfr.size
  obtain ⟨oa,oc',hs6,-⟩:=Row.of_owns hown
  subst hs6
  clear hfr hroom hown
  by_cases hjl:j<gn.length
  ·have hrow:=HGR.out.fr HFR.out (Nat.le_refl _) HTY.out
   obtain ⟨g',off',cap',e1,-,-,hg',hcells⟩:=Rm.u32_open (l:=gn) hrow (by omega)
   cases e1
   have hc:=hcells j hjl
   have HT:=Lib.hid (take_snocG hjl)
   have hiv:=HIV.out j
   have hcn:=cnt_le
   rw [List.length_take] at hiv
   obtain ⟨-,hi2,hi3,hi4⟩:=hiv
   clear hcells hrow
   generalize gn.getD j 0=p at *
   have HS:=Lib.hid (goneAll_snoc peer p (gn.take j) R)
   have CG:=Lib.hid (Gone_any b (goneAll peer (gn.take j) R).1.2 peer p wr HROOM.out)
   have HGL:=goneOp_len (goneAll peer (gn.take j) R).1.2 peer p
   generalize goneAll peer (gn.take j) R=G at *
   generalize goneOp G.1.2 peer p=Y at *
   obtain ⟨⟨Y1,Y2⟩,ye⟩:=Y
   obtain ⟨⟨G1,G2⟩,gu⟩:=G
   dsimp only at CG HS HGL HROOM HOWN hi2 hi3 hi4
   by_cases hye:ye=0
   ·subst hye
    have HS2:Hid (goneAll peer (gn.take j++[p]) R=((G1++Y1,Y2),gu)):=by show _=_;rw [HS.out];simp [cnt]
    exact Yx40
   ·have hn1:(ye == 0)=false:=by rw [beq_eq_false_iff_ne];exact hye
    have hn2:(ye != 0)=true:=by rw [bne_iff_ne];exact hye
    have HS2:Hid (goneAll peer (gn.take j++[p]) R=((G1++Y1,Y2),gu+1)):=by show _=_;rw [HS.out];simp [cnt,hye]
    exact Yx40
  ·have hjj:j=gn.length:=by omega
   have hT:gn.take j=gn:=by rw [hjj,List.take_length]
   rw [hT] at HROOM HOWN ⊢
   clear HIV HGR
   generalize goneAll peer gn R=G at *
   go_wp2
   go_ret2
   exact ⟨⟨_,by rw [HX.out];rfl,by rw [HX.out];exact Row.of_owns HOWN.out⟩,by rw [HX.out];exact HROOM.out,HFR.out⟩
end Go.Proofs.By
