/- tree.joined. -/
import Derived.Test.YtknioodagnjchaaGreatDoorVTCut0
import Derived.Test.YtknioodagnjchaaGreatDoorVTDel
import Derived.Deep.RegionHeld3
set_option maxRecDepth 100000
set_option maxHeartbeats 4000000
namespace Go.Proofs.YtknioodagnjchaaGreatDoor
open Go.RowKit
theorem Own.form {α:Type} {f:α→List Value} {size:Nat} {e:TypeId} {base:Nat} {w:World} {v:Value} {xs:List α} (h:Own f size e base w v xs):∃ A c,v=.slice A xs.length c:=by
 rcases h.2 with ⟨rfl,h0⟩ | ⟨g,cap,cur,rfl,_⟩
 ·exact ⟨none,0,by rw [h0]⟩
 ·exact ⟨_,cap,rfl⟩
theorem joined_any (l r:Nd) (b:By) (B:Nat) (vl vr:Value) (w:World) (hl:NdF B w vl l) (hr:NdF B w vr r) (s1:l.Bd) (s2:r.Bd):
  Calls Tryz.prog 219 #[vl,.string (mkS b),vr] w fun e w'=>∃ v,e=.returned v∧NdF w.heap.size w' v (joinN l b r)∧Below w.heap.size w w':=by
 obtain ⟨vk,vc,vd,rfl,h1,h2,h3⟩:=hl
 obtain ⟨A1,c1,rfl,k1,k2⟩:=h1.cap
 obtain ⟨A2,c2,rfl,k3,k4⟩:=h2.cap
 obtain ⟨A3,c3,rfl,k5,k6⟩:=h3.cap
 obtain ⟨vk,vc,vd,rfl,i1,i2,i3⟩:=hr
 obtain ⟨D1,d1,rfl,l1,l2⟩:=i1.cap
 obtain ⟨D2,d2,rfl,l3,l4⟩:=i2.cap
 obtain ⟨D3,d3,rfl,l5,l6⟩:=i3.cap
 have sk1:=s1.k
 have sk2:=s2.k
 have sc1:=s1.c
 have sc2:=s2.c
 have sd1:=s1.d
 have sd2:=s2.d
 have HB:=Lib.hid (show Below w.heap.size w (((w.alloc (ndB l (.slice A1 l.keys.length c1) (.slice A2 l.cells.length c2) (.slice A3 l.kids.length c3))).alloc (ndB r (.slice D1 r.keys.length d1) (.slice D2 r.cells.length d2) (.slice D3 r.kids.length d3))).alloc (ndB Nd.zero (.slice none 0 0) (.slice none 0 0) (.slice none 0 0))) from (((Below.refl _ w).alloc (Nat.le_refl _) _).alloc (by simp) _).alloc (by simp;omega) _)
 have HX:=Lib.hid (show (((w.alloc (ndB l (.slice A1 l.keys.length c1) (.slice A2 l.cells.length c2) (.slice A3 l.kids.length c3))).alloc (ndB r (.slice D1 r.keys.length d1) (.slice D2 r.cells.length d2) (.slice D3 r.kids.length d3))).alloc (ndB Nd.zero (.slice none 0 0) (.slice none 0 0) (.slice none 0 0))).heap[w.heap.size]?=some (ndB l (.slice A1 l.keys.length c1) (.slice A2 l.cells.length c2) (.slice A3 l.kids.length c3)) from blk_alloc (blk_alloc (blk_new rfl) _) _)
 have HY:=Lib.hid (show (((w.alloc (ndB l (.slice A1 l.keys.length c1) (.slice A2 l.cells.length c2) (.slice A3 l.kids.length c3))).alloc (ndB r (.slice D1 r.keys.length d1) (.slice D2 r.cells.length d2) (.slice D3 r.kids.length d3))).alloc (ndB Nd.zero (.slice none 0 0) (.slice none 0 0) (.slice none 0 0))).heap[w.heap.size+1]?=some (ndB r (.slice D1 r.keys.length d1) (.slice D2 r.cells.length d2) (.slice D3 r.kids.length d3)) from blk_alloc (blk_new (by simp)) _)
 have HZ:=Lib.hid (show (((w.alloc (ndB l (.slice A1 l.keys.length c1) (.slice A2 l.cells.length c2) (.slice A3 l.kids.length c3))).alloc (ndB r (.slice D1 r.keys.length d1) (.slice D2 r.cells.length d2) (.slice D3 r.kids.length d3))).alloc (ndB Nd.zero (.slice none 0 0) (.slice none 0 0) (.slice none 0 0))).heap[w.heap.size+1+1]?=some (ndB Nd.zero (.slice none 0 0) (.slice none 0 0) (.slice none 0 0)) from blk_new (by simp))
 have G1:=Lib.hid h1
 have G2:=Lib.hid h2
 have G3:=Lib.hid h3
 have J1:=Lib.hid i1
 have J2:=Lib.hid i2
 have J3:=Lib.hid i3
 clear h1 h2 h3 i1 i2 i3 s1 s2 k1 k2 k3 k4 k5 k6 l1 l2 l3 l4 l5 l6
 go_enter Tryz.func219,Tryz.ntmps219
 go_upto_region 1 with fail
 generalize hw1:((w.alloc (.cells #[.bool l.leaf,.slice A1 l.keys.length c1,.slice A2 l.cells.length c2,.slice A3 l.kids.length c3] 110)).alloc (.cells #[.bool r.leaf,.slice D1 r.keys.length d1,.slice D2 r.cells.length d2,.slice D3 r.kids.length d3] 110)).alloc (.cells #[.bool false,.slice none 0 0,.slice none 0 0,.slice none 0 0] 110)=w3 at *
 have hw2:((w.alloc (ndB l (.slice A1 l.keys.length c1) (.slice A2 l.cells.length c2) (.slice A3 l.kids.length c3))).alloc (ndB r (.slice D1 r.keys.length d1) (.slice D2 r.cells.length d2) (.slice D3 r.kids.length d3))).alloc (ndB Nd.zero (.slice none 0 0) (.slice none 0 0) (.slice none 0 0))=w3:=hw1
 rw [hw2] at HB HX HY HZ
 clear hw1 hw2
 obtain ⟨a0,a1,a2,a3,a4⟩:=nd_cells HX.out
 have HB4:=Lib.hid (show Below w.heap.size w (w3.alloc (ndB Nd.zero (.slice none 0 0) (.slice none 0 0) (.slice none 0 0))).drew from (HB.out.alloc HB.out.size _).drew)
 have HX4:=Lib.hid (show (w3.alloc (ndB Nd.zero (.slice none 0 0) (.slice none 0 0) (.slice none 0 0))).drew.heap[w.heap.size]?=_ from blk_alloc HX.out _)
 have HY4:=Lib.hid (show (w3.alloc (ndB Nd.zero (.slice none 0 0) (.slice none 0 0) (.slice none 0 0))).drew.heap[w.heap.size+1]?=_ from blk_alloc HY.out _)
 have HZ4:=Lib.hid (show (w3.alloc (ndB Nd.zero (.slice none 0 0) (.slice none 0 0) (.slice none 0 0))).drew.heap[w.heap.size+1+1]?=_ from blk_alloc HZ.out _)
 have HN4:=Lib.hid (show (w3.alloc (ndB Nd.zero (.slice none 0 0) (.slice none 0 0) (.slice none 0 0))).drew.heap[w3.heap.size]?=some (ndB Nd.zero (.slice none 0 0) (.slice none 0 0) (.slice none 0 0)) from blk_new rfl)
 have hn3:w.heap.size+1+1<w3.heap.size:=blk_lt HZ.out
 go_cut [7] from 8 to 13 (fun p wc=>∃ (gn:Nat) (E1:Option Addr) (e1:Nat),p=.pointer (some ⟨gn,0,none⟩)∧wc.heap[gn]?=some (ndB ⟨l.leaf,[],[],[]⟩ (.slice E1 l.keys.length e1) (.slice none 0 0) (.slice none 0 0))∧
  Own sC 1 9 w.heap.size wc (.slice E1 l.keys.length e1) l.keys∧w.heap.size+1+1<gn∧(∀ k,(Value.slice E1 l.keys.length e1).ownBlock=some k→k≠gn∧w.heap.size+1+1<k)∧Below w.heap.size w wc∧
  wc.heap[w.heap.size]?=some (ndB l (.slice A1 l.keys.length c1) (.slice A2 l.cells.length c2) (.slice A3 l.kids.length c3))∧wc.heap[w.heap.size+1]?=some (ndB r (.slice D1 r.keys.length d1) (.slice D2 r.cells.length d2) (.slice D3 r.kids.length d3))∧wc.heap[w.heap.size+1+1]?=some (ndB Nd.zero (.slice none 0 0) (.slice none 0 0) (.slice none 0 0)))
 case first=>
  go_region_held3 (fun wn=>wn.cell? ⟨w.heap.size,0,none⟩=some (.bool l.leaf)∧wn.cell? ⟨w.heap.size,1,none⟩=some (.slice A1 l.keys.length c1))
   ((first | go_keep | exact HK.out))
   ((go_at_call 137
     first
     | (refine (cloS_any l.keys _ (w3.alloc (ndB Nd.zero (.slice none 0 0) (.slice none 0 0) (.slice none 0 0))).drew (G1.out.keep HB4.out).sl (by omega)).mono ?_
        rintro e w5 ⟨v4,rfl,ho,hb⟩
        have hs5:=hb.size
        have HO5:=Lib.hid ho
        have HB5:=Lib.hid (HB4.out.trans (hb.mono HB4.out.size))
        have HX5:=Lib.hid (blk_keep HX4.out hb)
        have HY5:=Lib.hid (blk_keep HY4.out hb)
        have HZ5:=Lib.hid (blk_keep HZ4.out hb)
        have HN5:=Lib.hid (blk_keep HN4.out hb)
        have HK:=Lib.hid (show w5.cell? ⟨w.heap.size,0,none⟩=some (.bool l.leaf)∧w5.cell? ⟨w.heap.size,1,none⟩=some (.slice A1 l.keys.length c1) from ⟨(nd_cells HX5.out).1,(nd_cells HX5.out).2.1⟩)
        obtain ⟨E1,e1,rfl⟩:=ho.form
        obtain ⟨n0,n1,n2,n3,n4⟩:=nd_cells HN5.out
        simp only [Nd.zero] at n0
        have fn:=blk_frozen HN5.out
        obtain ⟨k0,k1⟩:=HK.out
        have kl:=blk_lt HX5.out
        have kn:¬ (w.heap.size=w3.heap.size):=by omega
        have kn':¬ (w3.heap.size=w.heap.size):=by omega
        clear ho hb)
     | (refine (cloS_any l.keys _ w3.drew (G1.out.keep HB.out.drew).sl (by omega)).mono ?_
        rintro e w5 ⟨v4,rfl,ho,hb⟩
        have hs5:=hb.size
        have HO5:=Lib.hid ho
        have HB5:=Lib.hid (HB.out.drew.trans (hb.mono HB.out.drew.size))
        have HX5:=Lib.hid (blk_keep (show w3.drew.heap[w.heap.size]?=_ from HX.out) hb)
        have HY5:=Lib.hid (blk_keep (show w3.drew.heap[w.heap.size+1]?=_ from HY.out) hb)
        have HZ5:=Lib.hid (blk_keep (show w3.drew.heap[w.heap.size+1+1]?=_ from HZ.out) hb)
        have HK:=Lib.hid (show w5.cell? ⟨w.heap.size,0,none⟩=some (.bool l.leaf)∧w5.cell? ⟨w.heap.size,1,none⟩=some (.slice A1 l.keys.length c1) from ⟨(nd_cells HX5.out).1,(nd_cells HX5.out).2.1⟩)
        obtain ⟨E1,e1,rfl⟩:=ho.form
        obtain ⟨k0,k1⟩:=HK.out
        have kl:=blk_lt HX5.out
        have kn:¬ (w.heap.size=w5.heap.size):=by omega
        have kn':¬ (w5.heap.size=w.heap.size):=by omega
        clear ho hb)))
  ·go_wp2_with fail
   go_meet
   case rel=>
    have hs6:w3.heap.size≤w5.heap.size:=hs5
    exact ⟨w5.heap.size,E1,e1,rfl,blk_new rfl,(HO5.out.base (by have:=HB.out.size;exact this)).alloc _,by omega,fun k hk=>by have:=HO5.out.lt k hk;exact ⟨by omega,by have h8:w3.heap.size≤k:=this.1;omega⟩,HB5.out.alloc HB5.out.size _,blk_alloc HX5.out _,blk_alloc HY5.out _,blk_alloc HZ5.out _⟩
  ·go_wp2_with fail
   go_meet
   case rel=>
    have hc:=set4_ch w5 w3.heap.size (.bool l.leaf) (.slice E1 l.keys.length e1) (.slice none 0 0) (.slice none 0 0)
    exact ⟨w3.heap.size,E1,e1,rfl,set4 HN5.out l.leaf _ _ _,(HO5.out.base (by have:=HB4.out.size;exact this)).ch hc (fun k hk e=>by have:=(HO5.out.lt k hk).1;have h9:(w3.alloc (ndB Nd.zero (.slice none 0 0) (.slice none 0 0) (.slice none 0 0))).drew.heap.size=w3.heap.size+1:=(by simp);omega),by omega,
     fun k hk=>by
      have:=(HO5.out.lt k hk).1
      have h9:(w3.alloc (ndB Nd.zero (.slice none 0 0) (.slice none 0 0) (.slice none 0 0))).drew.heap.size=w3.heap.size+1:=by simp
      exact ⟨by omega,by omega⟩,HB5.out.trans (hc.below HB5.out.size (by omega)),hc.keep HX5.out (by omega),hc.keep HY5.out (by omega),hc.keep HZ5.out (by omega)⟩
 case rest=>
  obtain ⟨gn,E1,e1,rfl,hn,ho,hgn,hfar,hb,hx,hy,hz⟩:=hcut
  have HN6:=Lib.hid hn
  have HO6:=Lib.hid ho
  have HF6:=Lib.hid hfar
  have HB6:=Lib.hid hb
  have HX6:=Lib.hid hx
  have HY6:=Lib.hid hy
  have HZ6:=Lib.hid hz
  clear hn ho hfar hb hx hy hz a0 a1 a2 a3 a4 hn3 HB HX HY HZ HB4 HX4 HY4 HZ4 HN4
  obtain ⟨a0,a1,a2,a3,a4⟩:=nd_cells HX6.out
  obtain ⟨n0,n1,n2,n3,n4⟩:=nd_cells HN6.out
  simp only at n0
  have fn:=blk_frozen HN6.out
  go_upto_if 16 with fail
  go_cut [] from 14 to 22 (fun wd=>∃ (E2:Option Addr) (e2:Nat),wd.heap[gn]?=some (ndB ⟨l.leaf,[],[],[]⟩ (.slice E2 (l.keys ++ (if l.leaf then [] else [b])).length e2) (.slice none 0 0) (.slice none 0 0))∧
   Own sC 1 9 w.heap.size wd (.slice E2 (l.keys ++ (if l.leaf then [] else [b])).length e2) (l.keys ++ (if l.leaf then [] else [b]))∧(∀ k,(Value.slice E2 (l.keys ++ (if l.leaf then [] else [b])).length e2).ownBlock=some k→k≠gn∧w.heap.size+1+1<k)∧Below w.heap.size w wd∧
   wd.heap[w.heap.size]?=some (ndB l (.slice A1 l.keys.length c1) (.slice A2 l.cells.length c2) (.slice A3 l.kids.length c3))∧wd.heap[w.heap.size+1]?=some (ndB r (.slice D1 r.keys.length d1) (.slice D2 r.cells.length d2) (.slice D3 r.kids.length d3))∧wd.heap[w.heap.size+1+1]?=some (ndB Nd.zero (.slice none 0 0) (.slice none 0 0) (.slice none 0 0)))
  case first=>
   have HLF:=Lib.hid (show l.leaf=true∨l.leaf=false by cases l.leaf <;> simp)
   rcases HLF.out with hlf | hlf
   ·rw [show (!l.leaf)=false by rw [hlf];rfl]
    have HL2:=Lib.hid hlf
    clear hlf
    go_wp2_with fail
    go_meet
    case rel=>
     rw [if_pos HL2.out,List.append_nil]
     exact ⟨E1,e1,HN6.out,HO6.out,HF6.out,HB6.out,HX6.out,HY6.out,HZ6.out⟩
   ·rw [show (!l.leaf)=true by rw [hlf];rfl]
    have HL2:=Lib.hid hlf
    clear hlf
    have HSB:=Lib.hid (show Sl sC 1 (wc.alloc (.cells #[.string (mkS b)] 9)) (.slice (some ⟨wc.heap.size,0,none⟩) 1 1) [b] from Sl.one b rfl sC_len rfl)
    have HO7:=Lib.hid (HO6.out.alloc (.cells #[.string (mkS b)] 9))
    have hbs:w.heap.size≤(wc.alloc (.cells #[.string (mkS b)] 9)).heap.size:=by have:=HB6.out.size;simp;omega
    go_wp2_with (at_builtin;refine Lib.hid (wpList_append_sl rfl rfl elS rfl rfl HO7.out HSB.out (by unfold maxLen;simp;omega) (by simp;omega) hbs ?_) |>.out)
    intro v' w7 h1 h2 h3
    have HO8:=Lib.hid h1
    have hx8:∀ {g:Nat} {o:Obj},wc.heap[g]?=some o→(∀ k,(Value.slice E1 l.keys.length e1).ownBlock=some k→k≠g)→w7.heap[g]?=some o:=fun {g o} hg hk=>by
     rw [h2.block g (by have:=blk_lt hg;simp;omega) (fun e=>hk g e.symm rfl)]
     exact blk_alloc hg _
    have HN8:=Lib.hid (hx8 HN6.out fun k hk=>(HF6.out k hk).1)
    have HX8:=Lib.hid (hx8 HX6.out fun k hk=>by have:=(HF6.out k hk).2;omega)
    have HY8:=Lib.hid (hx8 HY6.out fun k hk=>by have:=(HF6.out k hk).2;omega)
    have HZ8:=Lib.hid (hx8 HZ6.out fun k hk=>by have:=(HF6.out k hk).2;omega)
    have HB8:=Lib.hid ((HB6.out.alloc HB6.out.size (.cells #[.string (mkS b)] 9)).grown h2 hbs (fun k hk=>(HO6.out.lt k hk).1))
    obtain ⟨E2,e2,rfl⟩:=HO8.out.form
    have HF8:=Lib.hid (show ∀ k,(Value.slice E2 (l.keys ++ [b]).length e2).ownBlock=some k→k≠gn∧w.heap.size+1+1<k from fun k hk=>by
     rcases h3 with h | h
     ·exact HF6.out k (h.symm.trans hk)
     ·rw [h] at hk
      injection hk with hk
      have h9:(wc.alloc (.cells #[.string (mkS b)] 9)).heap.size=wc.heap.size+1:=by simp
      have:=blk_lt HN6.out
      have:=blk_lt HZ6.out
      exact ⟨by omega,by omega⟩)
    clear h1 h2 h3 hx8 n0 n1 n2 n3 n4 fn a0 a1 a2 a3 a4
    obtain ⟨n0,n1,n2,n3,n4⟩:=nd_cells HN8.out
    have fn:=blk_frozen HN8.out
    generalize hLE:(l.keys ++ [b]).length=L at *
    go_wp2_with fail
    go_meet
    case rel=>
     have hc:=(Ch.refl (fun k=>k=gn) w7).setCell (p:=⟨gn,1,none⟩) rfl (.slice E2 L e2)
     rw [if_neg (by rw [HL2.out];simp),hLE]
     exact ⟨E2,e2,blk_set HN8.out 1 _,HO8.out.ch hc (fun k hk e=>(HF8.out k hk).1 e),HF8.out,HB8.out.trans (hc.below HB8.out.size (by omega)),hc.keep HX8.out (by omega),hc.keep HY8.out (by omega),hc.keep HZ8.out (by omega)⟩
  case rest=>
   obtain ⟨E2,e2,hn,ho,hfar,hb,hx,hy,hz⟩:=hcut
   have HKL:=Lib.hid (show (l.keys ++ (if l.leaf then [] else [b])).length≤l.keys.length+1 by rw [List.length_append];split <;> simp)
   have HJN:=Lib.hid (show joinN l b r=⟨l.leaf,(l.keys ++ (if l.leaf then [] else [b])) ++ r.keys,l.cells ++ r.cells,l.kids ++ r.kids⟩ from rfl)
   generalize l.keys ++ (if l.leaf then [] else [b])=K at *
   have hkl:=HKL.out
   have HN9:=Lib.hid hn
   have HO9:=Lib.hid ho
   have HF9:=Lib.hid hfar
   have HB9:=Lib.hid hb
   have HX9:=Lib.hid hx
   have HY9:=Lib.hid hy
   have HZ9:=Lib.hid hz
   clear hn ho hfar hb hx hy hz a0 a1 a2 a3 a4 n0 n1 n2 n3 n4 fn HN6 HO6 HF6 HB6 HX6 HY6 HZ6 HKL
   obtain ⟨n0,n1,n2,n3,n4⟩:=nd_cells HN9.out
   obtain ⟨b0,b1,b2,b3,b4⟩:=nd_cells HY9.out
   have fn:=blk_frozen HN9.out
   have HJ1:=Lib.hid ((J1.out.keep HB9.out).sl)
   have hbs:w.heap.size≤wc.heap.size:=HB9.out.size
   go_wp2_with (at_builtin;refine Lib.hid (wpList_append_sl rfl rfl elS rfl rfl HO9.out HJ1.out (by unfold maxLen;omega) (by omega) hbs ?_) |>.out)
   intro v' w7 h1 h2 h3
   have HO8:=Lib.hid h1
   have hx8:∀ {g:Nat} {o:Obj},wc.heap[g]?=some o→(∀ k,(Value.slice E2 K.length e2).ownBlock=some k→k≠g)→w7.heap[g]?=some o:=fun {g o} hg hk=>by
    rw [h2.block g (blk_lt hg) (fun e=>hk g e.symm rfl)]
    exact hg
   have HN8:=Lib.hid (hx8 HN9.out fun k hk=>(HF9.out k hk).1)
   have HX8:=Lib.hid (hx8 HX9.out fun k hk=>by have:=(HF9.out k hk).2;omega)
   have HY8:=Lib.hid (hx8 HY9.out fun k hk=>by have:=(HF9.out k hk).2;omega)
   have HZ8:=Lib.hid (hx8 HZ9.out fun k hk=>by have:=(HF9.out k hk).2;omega)
   have HB8:=Lib.hid (HB9.out.grown h2 hbs (fun k hk=>(HO9.out.lt k hk).1))
   obtain ⟨E3,e3,rfl⟩:=HO8.out.form
   have HF8:=Lib.hid (show ∀ k,(Value.slice E3 (K ++ r.keys).length e3).ownBlock=some k→k≠gn∧w.heap.size+1+1<k from fun k hk=>by
    rcases h3 with h | h
    ·exact HF9.out k (h.symm.trans hk)
    ·rw [h] at hk
     injection hk with hk
     have:=blk_lt HN9.out
     have:=blk_lt HZ9.out
     exact ⟨by omega,by omega⟩)
   clear h1 h2 h3 hx8 n0 n1 n2 n3 n4 fn b0 b1 b2 b3 b4
   obtain ⟨n0,n1,n2,n3,n4⟩:=nd_cells HN8.out
   have fn:=blk_frozen HN8.out
   generalize hLE:(K ++ r.keys).length=L at *
   have HLE:=Lib.hid hLE
   clear hLE
   have HC10:=Lib.hid ((Ch.refl (fun k=>k=gn) w7).setCell (p:=⟨gn,1,none⟩) rfl (.slice E3 L e3))
   have HAN:=Lib.hid (show (w7.setCell ⟨gn,1,none⟩ (.slice E3 L e3)).heap[gn]?=some (ndB ⟨l.leaf,[],[],[]⟩ (.slice E3 L e3) (.slice none 0 0) (.slice none 0 0)) from blk_set HN8.out 1 _)
   go_upto_region 5 with fail
   generalize w7.setCell ⟨gn,1,none⟩ (.slice E3 L e3)=w10 at *
   have HAO:=Lib.hid (HO8.out.ch HC10.out (fun k hk e=>(HF8.out k hk).1 e))
   have HAX:=Lib.hid (HC10.out.keep HX8.out (by omega))
   have HAY:=Lib.hid (HC10.out.keep HY8.out (by omega))
   have HAZ:=Lib.hid (HC10.out.keep HZ8.out (by omega))
   have HAB:=Lib.hid (HB8.out.trans (HC10.out.below HB8.out.size (by omega)))
   clear n0 n1 n2 n3 n4 fn HN8 HO8 HX8 HY8 HZ8 HB8 HC10
   obtain ⟨a0,a1,a2,a3,a4⟩:=nd_cells HAX.out
   obtain ⟨b0,b1,b2,b3,b4⟩:=nd_cells HAY.out
   obtain ⟨n0,n1,n2,n3,n4⟩:=nd_cells HAN.out
   have fn:=blk_frozen HAN.out
   have HVB:=Lib.hid (blk_new (w0:=w10) (g:=w10.heap.size) (o:=.cells #[.slice A2 l.cells.length c2,.slice D2 r.cells.length d2] 108) rfl)
   have HBL:=Lib.hid (show Below w10.heap.size w10 (w10.alloc (.cells #[.slice A2 l.cells.length c2,.slice D2 r.cells.length d2] 108)) from (Below.refl _ w10).alloc (Nat.le_refl _) _)
   have HWB:=Lib.hid (HAB.out.alloc HAB.out.size (.cells #[.slice A2 l.cells.length c2,.slice D2 r.cells.length d2] 108))
   have hbs2:w.heap.size≤w10.heap.size:=HAB.out.size
   go_wp2_with fail
   refine (catC_any l.cells r.cells _ _ w10.heap.size _ _ _ (G2.out.keep HWB.out).sl (J2.out.keep HWB.out).sl (by omega) HVB.out).mono ?_
   rintro e w11 ⟨v,rfl,ho,hb⟩
   have HCV:=Lib.hid (ho.base (show w.heap.size≤(w10.alloc (.cells #[.slice A2 l.cells.length c2,.slice D2 r.cells.length d2] 108)).heap.size from by simp;omega))
   have HBT:=Lib.hid (HBL.out.trans (hb.mono HBL.out.size))
   have hge:∀ k,v.ownBlock=some k→w10.heap.size<k:=fun k hk=>by have:=(ho.lt k hk).1;have h9:(w10.alloc (.cells #[.slice A2 l.cells.length c2,.slice D2 r.cells.length d2] 108)).heap.size=w10.heap.size+1:=(by simp);omega
   have HCG:=Lib.hid (show ∀ k,v.ownBlock=some k→k≠gn∧w.heap.size+1+1<k from fun k hk=>by have:=hge k hk;have:=blk_lt HAZ.out;exact ⟨by omega,by omega⟩)
   have HCN:=Lib.hid (blk_keep HAN.out HBT.out)
   have HCX:=Lib.hid (blk_keep HAX.out HBT.out)
   have HCY:=Lib.hid (blk_keep HAY.out HBT.out)
   have HCZ:=Lib.hid (blk_keep HAZ.out HBT.out)
   have HCB:=Lib.hid (HAB.out.trans (HBT.out.mono HAB.out.size))
   have HCO:=Lib.hid (HAO.out.below HBT.out)
   clear hb hge HVB HBL HWB a0 a1 a2 a3 a4 b0 b1 b2 b3 b4 n0 n1 n2 n3 n4 fn
   obtain ⟨n0,n1,n2,n3,n4⟩:=nd_cells HCN.out
   have fn:=blk_frozen HCN.out
   obtain ⟨E5,e5,rfl⟩:=ho.form
   have HLC:=Lib.hid (show (l.cells ++ r.cells).length=l.cells.length+r.cells.length from List.length_append)
   clear ho
   generalize (l.cells ++ r.cells).length=L2 at *
   have HDC:=Lib.hid ((Ch.refl (fun k=>k=gn) w11).setCell (p:=⟨gn,2,none⟩) rfl (.slice E5 L2 e5))
   have HDN:=Lib.hid (show (w11.setCell ⟨gn,2,none⟩ (.slice E5 L2 e5)).heap[gn]?=some (ndB ⟨l.leaf,[],[],[]⟩ (.slice E3 L e3) (.slice E5 L2 e5) (.slice none 0 0)) from blk_set HCN.out 2 _)
   go_upto_region 6 with fail
   generalize w11.setCell ⟨gn,2,none⟩ (.slice E5 L2 e5)=w12 at *
   have HDV:=Lib.hid (HCV.out.ch HDC.out (fun k hk e=>(HCG.out k hk).1 e))
   have HDO:=Lib.hid (HCO.out.ch HDC.out (fun k hk e=>(HF8.out k hk).1 e))
   have HDX:=Lib.hid (HDC.out.keep HCX.out (by omega))
   have HDY:=Lib.hid (HDC.out.keep HCY.out (by omega))
   have HDZ:=Lib.hid (HDC.out.keep HCZ.out (by omega))
   have HDB:=Lib.hid (HCB.out.trans (HDC.out.below HCB.out.size (by omega)))
   clear n0 n1 n2 n3 n4 fn HCN HCO HCX HCY HCZ HCB HDC HAN HAO HAX HAY HAZ HAB HCV
   obtain ⟨a0,a1,a2,a3,a4⟩:=nd_cells HDX.out
   obtain ⟨b0,b1,b2,b3,b4⟩:=nd_cells HDY.out
   obtain ⟨n0,n1,n2,n3,n4⟩:=nd_cells HDN.out
   have fn:=blk_frozen HDN.out
   have HVB:=Lib.hid (blk_new (w0:=w12) (g:=w12.heap.size) (o:=.cells #[.slice A3 l.kids.length c3,.slice D3 r.kids.length d3] 37) rfl)
   have HBL:=Lib.hid (show Below w12.heap.size w12 (w12.alloc (.cells #[.slice A3 l.kids.length c3,.slice D3 r.kids.length d3] 37)) from (Below.refl _ w12).alloc (Nat.le_refl _) _)
   have HWB:=Lib.hid (HDB.out.alloc HDB.out.size (.cells #[.slice A3 l.kids.length c3,.slice D3 r.kids.length d3] 37))
   have hbs2:w.heap.size≤w12.heap.size:=HDB.out.size
   go_wp2_with fail
   refine (catI_any l.kids r.kids _ _ w12.heap.size _ _ _ (G3.out.keep HWB.out).sl (J3.out.keep HWB.out).sl (by omega) HVB.out).mono ?_
   rintro e w13 ⟨v,rfl,ho,hb⟩
   have HEV:=Lib.hid (ho.base (show w.heap.size≤(w12.alloc (.cells #[.slice A3 l.kids.length c3,.slice D3 r.kids.length d3] 37)).heap.size from by simp;omega))
   have HBT:=Lib.hid (HBL.out.trans (hb.mono HBL.out.size))
   have hge:∀ k,v.ownBlock=some k→w12.heap.size<k:=fun k hk=>by have:=(ho.lt k hk).1;have h9:(w12.alloc (.cells #[.slice A3 l.kids.length c3,.slice D3 r.kids.length d3] 37)).heap.size=w12.heap.size+1:=(by simp);omega
   have HEG:=Lib.hid (show ∀ k,v.ownBlock=some k→k≠gn∧w.heap.size+1+1<k from fun k hk=>by have:=hge k hk;have:=blk_lt HDZ.out;exact ⟨by omega,by omega⟩)
   have HEN:=Lib.hid (blk_keep HDN.out HBT.out)
   have HEX:=Lib.hid (blk_keep HDX.out HBT.out)
   have HEY:=Lib.hid (blk_keep HDY.out HBT.out)
   have HEZ:=Lib.hid (blk_keep HDZ.out HBT.out)
   have HEB:=Lib.hid (HDB.out.trans (HBT.out.mono HDB.out.size))
   have HEO:=Lib.hid (HDO.out.below HBT.out)
   clear hb hge HVB HBL HWB a0 a1 a2 a3 a4 b0 b1 b2 b3 b4 n0 n1 n2 n3 n4 fn
   obtain ⟨n0,n1,n2,n3,n4⟩:=nd_cells HEN.out
   have fn:=blk_frozen HEN.out
   obtain ⟨E6,e6,rfl⟩:=ho.form
   have HLD:=Lib.hid (show (l.kids ++ r.kids).length=l.kids.length+r.kids.length from List.length_append)
   clear ho
   generalize (l.kids ++ r.kids).length=L3 at *
   have HEW:=Lib.hid (HDV.out.below HBT.out)
   have HFC:=Lib.hid ((Ch.refl (fun k=>k=gn) w13).setCell (p:=⟨gn,3,none⟩) rfl (.slice E6 L3 e6))
   have HFN:=Lib.hid (show (w13.setCell ⟨gn,3,none⟩ (.slice E6 L3 e6)).heap[gn]?=some (ndB ⟨l.leaf,[],[],[]⟩ (.slice E3 L e3) (.slice E5 L2 e5) (.slice E6 L3 e6)) from blk_set HEN.out 3 _)
   go_upto_region 7 with fail
   generalize w13.setCell ⟨gn,3,none⟩ (.slice E6 L3 e6)=w14 at *
   have HFK:=Lib.hid (HEO.out.ch HFC.out (fun k hk e=>(HF8.out k hk).1 e))
   have HFV:=Lib.hid (HEW.out.ch HFC.out (fun k hk e=>(HCG.out k hk).1 e))
   have HFD:=Lib.hid (HEV.out.ch HFC.out (fun k hk e=>(HEG.out k hk).1 e))
   have HFZ:=Lib.hid (HFC.out.keep HEZ.out (by omega))
   have HFB:=Lib.hid (HEB.out.trans (HFC.out.below HEB.out.size (by omega)))
   clear n0 n1 n2 n3 n4 fn HEN HEO HEX HEY HEZ HEB HFC HDN HDO HDX HDY HDZ HDB HEV HEW
   obtain ⟨n0,n1,n2,n3,n4⟩:=nd_cells HFN.out
   obtain ⟨z0,z1,z2,z3,z4⟩:=nd_cells HFZ.out
   simp only at n0
   simp only [Nd.zero] at z0
   have fz:=blk_frozen HFZ.out
   go_wp2_with fail
   have hc:=set4_ch w14 (w.heap.size+1+1) (.bool l.leaf) (.slice E3 L e3) (.slice E5 L2 e5) (.slice E6 L3 e6)
   have hf:=set4 HFZ.out l.leaf (.slice E3 L e3) (.slice E5 L2 e5) (.slice E6 L3 e6)
   clear z0 z1 z2 z3 z4 fz
   obtain ⟨z0,z1,z2,z3,-⟩:=nd_cells hf
   simp only at z0
   refine bodyPost_ret (v:=.agg #[.bool l.leaf,.slice E3 L e3,.slice E5 L2 e5,.slice E6 L3 e6]) (by simp [results,Tryz.results219,go_sem,z0,z1,z2,z3]) rfl ?_
   rw [HJN.out]
   exact ⟨_,rfl,⟨_,_,_,rfl,(HFK.out.ch hc (fun k hk e=>by have:=(HF8.out k hk).2;omega)).slf sC_len,(HFV.out.ch hc (fun k hk e=>by have:=(HCG.out k hk).2;omega)).slf cC_len,(HFD.out.ch hc (fun k hk e=>by have:=(HEG.out k hk).2;omega)).slf iC_len⟩,HFB.out.trans (hc.below HFB.out.size (by omega))⟩
end Go.Proofs.YtknioodagnjchaaGreatDoor
