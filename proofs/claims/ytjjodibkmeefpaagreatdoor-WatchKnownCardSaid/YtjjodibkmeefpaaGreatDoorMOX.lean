import Derived.Test.YtjjodibkmeefpaaGreatDoorMO
import Derived.Outline
import Derived.Deep.RegionHeld3
import Derived.Deep.AppendLies
import Derived.IntWalk
import Derived.Deep.CutBlock
import Derived.WalkLawsBesides
set_option linter.unusedVariables false
set_option linter.unusedSimpArgs false

namespace Go.Proofs.YtjjodibkmeefpaaGreatDoor.Old
open Go Go.RowKit
attribute [local go_sem high] bop_add32 bop_xor32 bop_or32 uop_not32

theorem right16 (x:UInt32) (w:World) :
  Calls Tryz.prog 104 #[.int .u32 (x.toNat:Int),.int .u64 16] w fun e w'=>e=.returned (.int .u32 ((ror x 16).toNat:Int))∧w'=w:=by
 go_enter Tryz.func104,Tryz.ntmps104
 go_wp2
 go_ret
 exact ⟨ret_int (or_ror x 16 (by simp) (by simp)),rfl⟩
theorem right12 (x:UInt32) (w:World) :
  Calls Tryz.prog 104 #[.int .u32 (x.toNat:Int),.int .u64 12] w fun e w'=>e=.returned (.int .u32 ((ror x 12).toNat:Int))∧w'=w:=by
 go_enter Tryz.func104,Tryz.ntmps104
 go_wp2
 go_ret
 exact ⟨ret_int (or_ror x 12 (by simp) (by simp)),rfl⟩
theorem right8 (x:UInt32) (w:World) :
  Calls Tryz.prog 104 #[.int .u32 (x.toNat:Int),.int .u64 8] w fun e w'=>e=.returned (.int .u32 ((ror x 8).toNat:Int))∧w'=w:=by
 go_enter Tryz.func104,Tryz.ntmps104
 go_wp2
 go_ret
 exact ⟨ret_int (or_ror x 8 (by simp) (by simp)),rfl⟩
theorem right7 (x:UInt32) (w:World) :
  Calls Tryz.prog 104 #[.int .u32 (x.toNat:Int),.int .u64 7] w fun e w'=>e=.returned (.int .u32 ((ror x 7).toNat:Int))∧w'=w:=by
 go_enter Tryz.func104,Tryz.ntmps104
 go_wp2
 go_ret
 exact ⟨ret_int (or_ror x 7 (by simp) (by simp)),rfl⟩

theorem add32_assoc (x y z:UInt32):add32 (add32 x y) z=add32 x (add32 y z):=by unfold add32;exact UInt32.add_assoc x y z
theorem xor32_assoc (x y z:UInt32):xor32 (xor32 x y) z=xor32 x (xor32 y z):=by unfold xor32;exact UInt32.xor_assoc x y z

def R32 (w:World) (g:Nat) (s:List UInt32):Prop:=∃cur,w.heap[g]?=some (.cells cur 105 (0,0))∧cur.toList.take s.length=s.map u32v
section
variable {w w':World} {g:Nat} {s:List UInt32}
theorem R32.lt (h:R32 w g s):g<w.heap.size:=by
 obtain ⟨cur,h,_⟩:=h
 exact (Array.getElem?_eq_some_iff.1 h).1
theorem R32.cell (h:R32 w g s) {i:Nat} (hi:i<s.length):w.cell? ⟨g,i,none⟩=some (.int .u32 ((s.getD i 0).toNat:Int)):=by
 obtain ⟨cur,h,ht⟩:=h
 rw [cell_of_row w g i _ _ (0,0) h,←Array.getElem?_toList,←List.getElem?_take_of_lt hi,ht]
 simp [hi]
theorem R32.frozen (h:R32 w g s) (i:Nat):w.frozen? ⟨g,i,none⟩=false:=by
 obtain ⟨cur,h,_⟩:=h
 exact frozen_of_row w g i _ _ h
theorem R32.get (h:R32 w g s) {i:Nat} (hi:i<s.length):∃x,Hid (s.getD i 0=x)∧w.cell? ⟨g,i,none⟩=some (.int .u32 (x.toNat:Int))∧w.frozen? ⟨g,i,none⟩=false :=
 ⟨_,rfl,h.cell hi,h.frozen i⟩
theorem R32.set (h:R32 w g s) (i:Nat) (x:UInt32):R32 (w.setCell ⟨g,i,none⟩ (.int .u32 (x.toNat:Int))) g (s.set i x):=by
 obtain ⟨cur,h,ht⟩:=h
 refine ⟨_,heap_setCell_same w g i _ _ _ h,?_⟩
 rw [List.length_set,List.map_set,←ht,Array.toList_setIfInBounds,List.take_set]
theorem R32.keep (h:R32 w g s) (hk:w'.heap[g]?=w.heap[g]?):R32 w' g s:=by
 obtain ⟨cur,h,ht⟩:=h
 exact ⟨cur,hk.trans h,ht⟩
theorem R32.fr {T:Nat->Prop} (h:R32 w g s) (hf:Fr T w w') (ht:¬T g):R32 w' g s:=h.keep (hf.block g h.lt ht)
end
theorem advR {w wr:World} {g:Nat} {s:List UInt32} (hW:R32 wr g s) (hF:Fr (·=g) w wr) (i:Nat) (x:UInt32) {s':List UInt32} (e:s'=s.set i x) :
  ∃w1,(wr.setCell ⟨g,i,none⟩ (.int .u32 (x.toNat:Int))).drew=w1∧R32 w1 g s'∧Fr (·=g) w w1:=by
 subst e
 exact ⟨_,rfl,hW.set i x,(hF.trans (Fr.setCell (T:=(·=g)) _ rfl) (fun _ _ h=>h)).drew⟩
def P4 (w:World) (g:Nat) (a b c d:Nat):Prop:=w.heap[g]?=some (.cells #[.int .i64 (a:Int),.int .i64 (b:Int),.int .i64 (c:Int),.int .i64 (d:Int)] 3 (0,0))

set_option maxRecDepth 100000 in
set_option maxHeartbeats 4000000 in
theorem half16 (g gp cp:Nat) (a b c d:Nat) (x:UInt32) (s:List UInt32) (w:World) (h:R32 w g s) (hp:P4 w gp a b c d) (hne:gp≠g) (hs:s.length=16) (ha:a<16) (hb:b<16) (hc:c<16) (hd:d<16) :
  Calls Tryz.prog 86 #[.slice (some ⟨g,0,none⟩) 16 cp,.slice (some ⟨gp,0,none⟩) 4 4,.int .u32 (x.toNat:Int),.int .u64 16,.int .u64 12] w
   fun e w'=>e=.returned (.tuple #[])∧R32 w' g (Bl.half s a b c d x 16 12)∧Fr (·=g) w w':=by
 have hg:=h.lt
 have HW:=Lib.hid h
 have HP:=Lib.hid hp
 have HL:=Lib.hid hs
 have HF:Hid (Fr (·=g) w w):=Fr.refl
 have hpl:gp<w.heap.size:=(Array.getElem?_eq_some_iff.1 hp).1
 have HN:=Lib.hid hne
 have hai:(a:Int)<16:=by omega
 have hbi:(b:Int)<16:=by omega
 have hci:(c:Int)<16:=by omega
 have hdi:(d:Int)<16:=by omega
 clear h hs hp hne
 go_enter Tryz.func86,Tryz.ntmps86
 obtain ⟨xa,exa,hca,hfa⟩:=HW.out.get (i:=a) (by rw [HL.out];exact ha)
 obtain ⟨xb,exb,hcb,hfb⟩:=HW.out.get (i:=b) (by rw [HL.out];exact hb)
 have HP0:=(HF.out.block gp hpl HN.out).trans HP.out
 have hpa:w.cell? ⟨gp,0,none⟩=some (.int .i64 (a:Int)):=cell_of_row _ _ _ _ _ _ HP0
 have hpb:w.cell? ⟨gp,1,none⟩=some (.int .i64 (b:Int)):=cell_of_row _ _ _ _ _ _ HP0
 clear HP0
 go_wp2
 refine region_tail 20 (by kernel_rfl) (by kernel_rfl) ?_
 simp only [List.take_succ_cons,List.take_zero,List.drop_succ_cons,List.drop_zero]
 repeat still_step
 refine wpStill_nil ?_
 go_wp2
 obtain ⟨w1,ew,hW,hF⟩:=advR HW.out HF.out a (add32 (add32 xa xb) x) (s':=Bl.h1 s a b x) (by show List.set _ _ _=_;rw [exa.out,exb.out,add32_assoc])
 rw [ew]
 have HL1:Hid ((Bl.h1 s a b x).length=16):=by have:=HL.out;simpa [Hid,Bl.len_h1,Bl.len_h2,Bl.len_h3] using this
 have HW1:=Lib.hid hW
 have HF1:=Lib.hid hF
 clear ew hW hF hca hfa exa hpa hcb hfb exb hpb
 obtain ⟨xd,exd,hcd,hfd⟩:=HW1.out.get (i:=d) (by rw [HL1.out];exact hd)
 obtain ⟨xa,exa,hca,hfa⟩:=HW1.out.get (i:=a) (by rw [HL1.out];exact ha)
 have HP1:=(HF1.out.block gp hpl HN.out).trans HP.out
 have hpd:w1.cell? ⟨gp,3,none⟩=some (.int .i64 (d:Int)):=cell_of_row _ _ _ _ _ _ HP1
 have hpa:w1.cell? ⟨gp,0,none⟩=some (.int .i64 (a:Int)):=cell_of_row _ _ _ _ _ _ HP1
 clear HP1
 go_wp2
 refine region_tail 20 (by kernel_rfl) (by kernel_rfl) ?_
 simp only [List.take_succ_cons,List.take_zero,List.drop_succ_cons,List.drop_zero]
 repeat still_step
 still_call (right16 _ _)
 repeat still_step
 refine wpStill_nil ?_
 go_wp2
 obtain ⟨w2,ew,hW,hF⟩:=advR HW1.out HF1.out d (ror (xor32 xd xa) 16) (s':=Bl.h2 (Bl.h1 s a b x) d a 16) (by show List.set _ _ _=_;rw [exd.out,exa.out])
 rw [ew]
 have HL2:Hid ((Bl.h2 (Bl.h1 s a b x) d a 16).length=16):=by have:=HL1.out;simpa [Hid,Bl.len_h1,Bl.len_h2,Bl.len_h3] using this
 have HW2:=Lib.hid hW
 have HF2:=Lib.hid hF
 clear ew hW hF hcd hfd exd hpd hca hfa exa hpa
 obtain ⟨xc,exc,hcc,hfc⟩:=HW2.out.get (i:=c) (by rw [HL2.out];exact hc)
 obtain ⟨xd,exd,hcd,hfd⟩:=HW2.out.get (i:=d) (by rw [HL2.out];exact hd)
 have HP2:=(HF2.out.block gp hpl HN.out).trans HP.out
 have hpc:w2.cell? ⟨gp,2,none⟩=some (.int .i64 (c:Int)):=cell_of_row _ _ _ _ _ _ HP2
 have hpd:w2.cell? ⟨gp,3,none⟩=some (.int .i64 (d:Int)):=cell_of_row _ _ _ _ _ _ HP2
 clear HP2
 go_wp2
 refine region_tail 18 (by kernel_rfl) (by kernel_rfl) ?_
 simp only [List.take_succ_cons,List.take_zero,List.drop_succ_cons,List.drop_zero]
 repeat still_step
 refine wpStill_nil ?_
 go_wp2
 obtain ⟨w3,ew,hW,hF⟩:=advR HW2.out HF2.out c (add32 xc xd) (s':=Bl.h3 (Bl.h2 (Bl.h1 s a b x) d a 16) c d) (by show List.set _ _ _=_;rw [exc.out,exd.out])
 rw [ew]
 have HL3:Hid ((Bl.h3 (Bl.h2 (Bl.h1 s a b x) d a 16) c d).length=16):=by have:=HL2.out;simpa [Hid,Bl.len_h1,Bl.len_h2,Bl.len_h3] using this
 have HW3:=Lib.hid hW
 have HF3:=Lib.hid hF
 clear ew hW hF hcc hfc exc hpc hcd hfd exd hpd
 obtain ⟨xb,exb,hcb,hfb⟩:=HW3.out.get (i:=b) (by rw [HL3.out];exact hb)
 obtain ⟨xc,exc,hcc,hfc⟩:=HW3.out.get (i:=c) (by rw [HL3.out];exact hc)
 have HP3:=(HF3.out.block gp hpl HN.out).trans HP.out
 have hpb:w3.cell? ⟨gp,1,none⟩=some (.int .i64 (b:Int)):=cell_of_row _ _ _ _ _ _ HP3
 have hpc:w3.cell? ⟨gp,2,none⟩=some (.int .i64 (c:Int)):=cell_of_row _ _ _ _ _ _ HP3
 clear HP3
 go_wp2
 refine region_tail 20 (by kernel_rfl) (by kernel_rfl) ?_
 simp only [List.take_succ_cons,List.take_zero,List.drop_succ_cons,List.drop_zero]
 repeat still_step
 still_call (right12 _ _)
 repeat still_step
 refine wpStill_nil ?_
 go_wp2
 obtain ⟨w4,ew,hW,hF⟩:=advR HW3.out HF3.out b (ror (xor32 xb xc) 12) (s':=Bl.h2 (Bl.h3 (Bl.h2 (Bl.h1 s a b x) d a 16) c d) b c 12) (by show List.set _ _ _=_;rw [exb.out,exc.out])
 rw [ew]
 have HL4:Hid ((Bl.h2 (Bl.h3 (Bl.h2 (Bl.h1 s a b x) d a 16) c d) b c 12).length=16):=by have:=HL3.out;simpa [Hid,Bl.len_h1,Bl.len_h2,Bl.len_h3] using this
 have HW4:=Lib.hid hW
 have HF4:=Lib.hid hF
 clear ew hW hF hcb hfb exb hpb hcc hfc exc hpc
 go_wp2
 go_end0
 exact ⟨rfl,HW4.out,HF4.out⟩
set_option maxRecDepth 100000 in
set_option maxHeartbeats 4000000 in
theorem half8 (g gp cp:Nat) (a b c d:Nat) (x:UInt32) (s:List UInt32) (w:World) (h:R32 w g s) (hp:P4 w gp a b c d) (hne:gp≠g) (hs:s.length=16) (ha:a<16) (hb:b<16) (hc:c<16) (hd:d<16) :
  Calls Tryz.prog 86 #[.slice (some ⟨g,0,none⟩) 16 cp,.slice (some ⟨gp,0,none⟩) 4 4,.int .u32 (x.toNat:Int),.int .u64 8,.int .u64 7] w
   fun e w'=>e=.returned (.tuple #[])∧R32 w' g (Bl.half s a b c d x 8 7)∧Fr (·=g) w w':=by
 have hg:=h.lt
 have HW:=Lib.hid h
 have HP:=Lib.hid hp
 have HL:=Lib.hid hs
 have HF:Hid (Fr (·=g) w w):=Fr.refl
 have hpl:gp<w.heap.size:=(Array.getElem?_eq_some_iff.1 hp).1
 have HN:=Lib.hid hne
 have hai:(a:Int)<16:=by omega
 have hbi:(b:Int)<16:=by omega
 have hci:(c:Int)<16:=by omega
 have hdi:(d:Int)<16:=by omega
 clear h hs hp hne
 go_enter Tryz.func86,Tryz.ntmps86
 obtain ⟨xa,exa,hca,hfa⟩:=HW.out.get (i:=a) (by rw [HL.out];exact ha)
 obtain ⟨xb,exb,hcb,hfb⟩:=HW.out.get (i:=b) (by rw [HL.out];exact hb)
 have HP0:=(HF.out.block gp hpl HN.out).trans HP.out
 have hpa:w.cell? ⟨gp,0,none⟩=some (.int .i64 (a:Int)):=cell_of_row _ _ _ _ _ _ HP0
 have hpb:w.cell? ⟨gp,1,none⟩=some (.int .i64 (b:Int)):=cell_of_row _ _ _ _ _ _ HP0
 clear HP0
 go_wp2
 refine region_tail 20 (by kernel_rfl) (by kernel_rfl) ?_
 simp only [List.take_succ_cons,List.take_zero,List.drop_succ_cons,List.drop_zero]
 repeat still_step
 refine wpStill_nil ?_
 go_wp2
 obtain ⟨w1,ew,hW,hF⟩:=advR HW.out HF.out a (add32 (add32 xa xb) x) (s':=Bl.h1 s a b x) (by show List.set _ _ _=_;rw [exa.out,exb.out,add32_assoc])
 rw [ew]
 have HL1:Hid ((Bl.h1 s a b x).length=16):=by have:=HL.out;simpa [Hid,Bl.len_h1,Bl.len_h2,Bl.len_h3] using this
 have HW1:=Lib.hid hW
 have HF1:=Lib.hid hF
 clear ew hW hF hca hfa exa hpa hcb hfb exb hpb
 obtain ⟨xd,exd,hcd,hfd⟩:=HW1.out.get (i:=d) (by rw [HL1.out];exact hd)
 obtain ⟨xa,exa,hca,hfa⟩:=HW1.out.get (i:=a) (by rw [HL1.out];exact ha)
 have HP1:=(HF1.out.block gp hpl HN.out).trans HP.out
 have hpd:w1.cell? ⟨gp,3,none⟩=some (.int .i64 (d:Int)):=cell_of_row _ _ _ _ _ _ HP1
 have hpa:w1.cell? ⟨gp,0,none⟩=some (.int .i64 (a:Int)):=cell_of_row _ _ _ _ _ _ HP1
 clear HP1
 go_wp2
 refine region_tail 20 (by kernel_rfl) (by kernel_rfl) ?_
 simp only [List.take_succ_cons,List.take_zero,List.drop_succ_cons,List.drop_zero]
 repeat still_step
 still_call (right8 _ _)
 repeat still_step
 refine wpStill_nil ?_
 go_wp2
 obtain ⟨w2,ew,hW,hF⟩:=advR HW1.out HF1.out d (ror (xor32 xd xa) 8) (s':=Bl.h2 (Bl.h1 s a b x) d a 8) (by show List.set _ _ _=_;rw [exd.out,exa.out])
 rw [ew]
 have HL2:Hid ((Bl.h2 (Bl.h1 s a b x) d a 8).length=16):=by have:=HL1.out;simpa [Hid,Bl.len_h1,Bl.len_h2,Bl.len_h3] using this
 have HW2:=Lib.hid hW
 have HF2:=Lib.hid hF
 clear ew hW hF hcd hfd exd hpd hca hfa exa hpa
 obtain ⟨xc,exc,hcc,hfc⟩:=HW2.out.get (i:=c) (by rw [HL2.out];exact hc)
 obtain ⟨xd,exd,hcd,hfd⟩:=HW2.out.get (i:=d) (by rw [HL2.out];exact hd)
 have HP2:=(HF2.out.block gp hpl HN.out).trans HP.out
 have hpc:w2.cell? ⟨gp,2,none⟩=some (.int .i64 (c:Int)):=cell_of_row _ _ _ _ _ _ HP2
 have hpd:w2.cell? ⟨gp,3,none⟩=some (.int .i64 (d:Int)):=cell_of_row _ _ _ _ _ _ HP2
 clear HP2
 go_wp2
 refine region_tail 18 (by kernel_rfl) (by kernel_rfl) ?_
 simp only [List.take_succ_cons,List.take_zero,List.drop_succ_cons,List.drop_zero]
 repeat still_step
 refine wpStill_nil ?_
 go_wp2
 obtain ⟨w3,ew,hW,hF⟩:=advR HW2.out HF2.out c (add32 xc xd) (s':=Bl.h3 (Bl.h2 (Bl.h1 s a b x) d a 8) c d) (by show List.set _ _ _=_;rw [exc.out,exd.out])
 rw [ew]
 have HL3:Hid ((Bl.h3 (Bl.h2 (Bl.h1 s a b x) d a 8) c d).length=16):=by have:=HL2.out;simpa [Hid,Bl.len_h1,Bl.len_h2,Bl.len_h3] using this
 have HW3:=Lib.hid hW
 have HF3:=Lib.hid hF
 clear ew hW hF hcc hfc exc hpc hcd hfd exd hpd
 obtain ⟨xb,exb,hcb,hfb⟩:=HW3.out.get (i:=b) (by rw [HL3.out];exact hb)
 obtain ⟨xc,exc,hcc,hfc⟩:=HW3.out.get (i:=c) (by rw [HL3.out];exact hc)
 have HP3:=(HF3.out.block gp hpl HN.out).trans HP.out
 have hpb:w3.cell? ⟨gp,1,none⟩=some (.int .i64 (b:Int)):=cell_of_row _ _ _ _ _ _ HP3
 have hpc:w3.cell? ⟨gp,2,none⟩=some (.int .i64 (c:Int)):=cell_of_row _ _ _ _ _ _ HP3
 clear HP3
 go_wp2
 refine region_tail 20 (by kernel_rfl) (by kernel_rfl) ?_
 simp only [List.take_succ_cons,List.take_zero,List.drop_succ_cons,List.drop_zero]
 repeat still_step
 still_call (right7 _ _)
 repeat still_step
 refine wpStill_nil ?_
 go_wp2
 obtain ⟨w4,ew,hW,hF⟩:=advR HW3.out HF3.out b (ror (xor32 xb xc) 7) (s':=Bl.h2 (Bl.h3 (Bl.h2 (Bl.h1 s a b x) d a 8) c d) b c 7) (by show List.set _ _ _=_;rw [exb.out,exc.out])
 rw [ew]
 have HL4:Hid ((Bl.h2 (Bl.h3 (Bl.h2 (Bl.h1 s a b x) d a 8) c d) b c 7).length=16):=by have:=HL3.out;simpa [Hid,Bl.len_h1,Bl.len_h2,Bl.len_h3] using this
 have HW4:=Lib.hid hW
 have HF4:=Lib.hid hF
 clear ew hW hF hcb hfb exb hpb hcc hfc exc hpc
 go_wp2
 go_end0
 exact ⟨rfl,HW4.out,HF4.out⟩
end Go.Proofs.YtjjodibkmeefpaaGreatDoor.Old

namespace Go.Proofs.YtjjodibkmeefpaaGreatDoor.Old
open Go Go.RowKit
attribute [local go_sem high] bop_add32 bop_xor32 bop_or32 uop_not32

def allocs (w:World):List Obj->World
 | []=>w
 | o::os=>allocs (w.alloc o) os
theorem allocs_size:∀(os:List Obj) (w:World),(allocs w os).heap.size=w.heap.size+os.length
 | [],_=>rfl
 | o::os,w=>by rw [allocs,allocs_size os];simp;omega
theorem allocs_old:∀(os:List Obj) (w:World) (g:Nat),g<w.heap.size->(allocs w os).heap[g]?=w.heap[g]?
 | [],_,_,_=>rfl
 | o::os,w,g,h=>by rw [allocs,allocs_old os _ g (by simp;omega)];exact heap_alloc_old w o h
theorem allocs_get:∀(os:List Obj) (w:World) (k:Nat) (o:Obj),os[k]?=some o->(allocs w os).heap[w.heap.size+k]?=some o
 | [],_,_,_,h=>by simp at h
 | p::os,w,0,o,h=>by
  obtain rfl:p=o:=by simpa using h
  rw [allocs,Nat.add_zero,allocs_old os _ _ (by simp)]
  exact heap_alloc_new w p
 | p::os,w,k+1,o,h=>by
  have:=allocs_get os (w.alloc p) k o (by simpa using h)
  rw [allocs,←this]
  congr 1
  simp;omega
theorem allocs_below:∀(os:List Obj) (w w0:World) (B:Nat),Below B w0 w->B<=w.heap.size->Below B w0 (allocs w os)
 | [],_,_,_,h,_=>h
 | o::os,w,w0,B,h,hB=>allocs_below os (w.alloc o) w0 B (h.alloc hB o) (by simp;omega)

def Rw2 (w:World) (B:Nat) (v:Value) (ll:List (List Nat)):Prop :=
 ∃g c,v=.slice (some ⟨g,0,none⟩) ll.length c∧B<=g∧g<w.heap.size ∧
  ∀k l,ll[k]?=some l->∃q,B<=q∧q<w.heap.size∧w.cell? ⟨g,k,none⟩=some (.slice (some ⟨q,0,none⟩) l.length l.length)∧w.heap[q]?=some (.cells (l.map fun (x:Nat)=>Value.int .i64 (x:Int)).toArray 3 (0,0))
theorem Rw2.keep {w w':World} {B:Nat} {v:Value} {ll:List (List Nat)} (h:Rw2 w B v ll) (hk:∀g,g<w.heap.size->B<=g->w'.heap[g]?=w.heap[g]?):Rw2 w' B v ll:=by
 obtain ⟨g,c,hv,hb,hlt,hr⟩:=h
 refine ⟨g,c,hv,hb,lt_of_block hlt (hk g hlt hb),fun k l hl=>?_⟩
 obtain ⟨q,h1,h2,h3,h4⟩:=hr k l hl
 exact ⟨q,h1,lt_of_block h2 (hk q h2 h1),(World.cell?_of_block (a:=⟨g,k,none⟩) (hk g hlt hb)).trans h3,(hk q h2 h1).trans h4⟩

def rowObj (l:List Nat):Obj:=.cells (l.map fun (x:Nat)=>Value.int .i64 (x:Int)).toArray 3 (0,0)
def headObj (N:Nat) (ll:List (List Nat)):Obj:=.cells ((List.range ll.length).map fun k=>Value.slice (some ⟨N+k,0,none⟩) (ll.getD k []).length (ll.getD k []).length).toArray 138 (0,0)
theorem rw2_mk (w:World) (ll:List (List Nat)):Rw2 (allocs w (ll.map rowObj++[headObj w.heap.size ll])) w.heap.size (.slice (some ⟨w.heap.size+ll.length,0,none⟩) ll.length ll.length) ll:=by
 refine ⟨_,_,rfl,by omega,by rw [allocs_size];simp,fun k l hl=>?_⟩
 have hk:k<ll.length:=(List.getElem?_eq_some_iff.1 hl).1
 refine ⟨w.heap.size+k,by omega,by rw [allocs_size];simp;omega,?_,?_⟩
 ·have h1:=allocs_get (ll.map rowObj++[headObj w.heap.size ll]) w ll.length (headObj w.heap.size ll) (by simp)
  rw [cell_of_row _ _ _ _ _ _ h1]
  have e:ll[k]=l:=Option.some.inj ((List.getElem?_eq_getElem hk).symm.trans hl)
  simp [hk,e]
 ·exact allocs_get _ w k (rowObj l) (by rw [List.getElem?_append_left (by simpa using hk),List.getElem?_map,hl];rfl)

set_option maxRecDepth 100000 in
set_option maxHeartbeats 2000000 in
theorem orders_ref (w:World):Calls Tryz.prog 84 #[] w fun e w'=>∃v,e=.returned v∧Rw2 w' w.heap.size v Bl.orders∧Below w.heap.size w w':=by
 go_enter Tryz.func84,Tryz.ntmps84
 go_wp2
 go_ret
 exact ⟨_,rfl,rw2_mk w Bl.orders,allocs_below (Bl.orders.map rowObj++[headObj w.heap.size Bl.orders]) w w _ (Below.refl _ _) (Nat.le_refl _)⟩

def placesL:List (List Nat):=[[0,4,8,12],[1,5,9,13],[2,6,10,14],[3,7,11,15],[0,5,10,15],[1,6,11,12],[2,7,8,13],[3,4,9,14]]
set_option maxHeartbeats 2000000 in
theorem places_ref (w:World):Calls Tryz.prog 85 #[] w fun e w'=>∃v,e=.returned v∧Rw2 w' w.heap.size v placesL∧Below w.heap.size w w':=by
 go_enter Tryz.func85,Tryz.ntmps85
 go_wp2
 go_ret
 exact ⟨_,rfl,rw2_mk w placesL,allocs_below (placesL.map rowObj++[headObj w.heap.size placesL]) w w _ (Below.refl _ _) (Nat.le_refl _)⟩
theorem places_at:∀k,k<8->placesL[k]?=some [k % 4,4+(k % 4+k / 4) % 4,8+(k % 4+2*(k / 4)) % 4,12+(k % 4+3*(k / 4)) % 4]:=by decide

theorem info_u32:(Tryz.prog.info? 105).map (fun i=>(i.zero,i.size,i.bytes))=some (some (.int .u32 0),1,4):=by kernel_rfl
def OwnW (w:World) (base:Nat) (v:Value) (l:List UInt32):Prop:=w.ownsRow base 105 1 v l.length (l.map u32v)
section
variable {w w':World} {base:Nat} {v:Value} {l:List UInt32}
theorem OwnW.nil (w:World) (base:Nat):OwnW w base (.slice none 0 0) []:=World.ownsRow_nil _ _ _ _
theorem OwnW.keep (h:OwnW w base v l) (hk:∀g,v.ownBlock=some g->w'.heap[g]?=w.heap[g]?):OwnW w' base v l:=ownsRow_keep h hk
theorem OwnW.lt (h:OwnW w base v l):∀g,v.ownBlock=some g->base<=g∧g<w.heap.size:=World.ownsRow.lt h
theorem OwnW.below {B:Nat} (h:OwnW w base v l) (hb:Below B w w') (hB:w.heap.size<=B):OwnW w' base v l :=
 h.keep fun g e=>hb.block g (by have:=(h.lt g e).2;omega)
theorem OwnW.fr {T:Nat->Prop} (h:OwnW w base v l) (hg:Fr T w w') (hne:∀g,v.ownBlock=some g->¬T g):OwnW w' base v l :=
 h.keep fun g e=>hg.block g (h.lt g e).2 (hne g e)
theorem OwnW.alloc (h:OwnW w base v l) (o:Obj):OwnW (w.alloc o) base v l:=World.ownsRow.alloc h o
theorem OwnW.low {base':Nat} (h:OwnW w base v l) (hk:base'<=base):OwnW w base' v l:=ownsRow_base h hk
theorem OwnW.drew (h:OwnW w base v l):OwnW w.drew base v l:=h
theorem OwnW.at_ (h:OwnW w base v l) (hn:0<l.length):∃g c,v=.slice (some ⟨g,0,none⟩) l.length c∧base<=g∧g<w.heap.size∧R32 w g l∧l.length<=c∧c<=9223372036854775807:=by
 rcases h.2 with ⟨_,h0⟩|⟨g,cap,cur,hv,hb,hg,h1,h2,_,ht⟩
 ·omega
 ·refine ⟨g,cap,hv,hb,(Array.getElem?_eq_some_iff.1 hg).1,⟨cur,hg,by simpa using ht⟩,h1,by simpa [maxLen] using h2⟩
theorem R32.rd {g:Nat} (h:R32 w g l) {S:Nat->Prop} (hS:S g) {n:Nat} (hn:l.length=n):Rd w S 1 (some ⟨g,0,none⟩) n (l.map u32v):=by
 subst hn
 refine ⟨by simp,fun _=>⟨g,0,rfl,⟨h.lt,hS⟩,fun j u hu=>?_⟩⟩
 obtain ⟨cur,hg,ht⟩:=h
 have hj:j<l.length:=by simpa using (List.getElem?_eq_some_iff.1 hu).1
 rw [Nat.zero_add,cell_of_row _ _ _ _ _ _ hg,←Array.getElem?_toList,←List.getElem?_take_of_lt hj,ht]
 exact hu
end

theorem app_w {w:World} {ops:Array Oper} {rest:List Oper} {o:Oper} {a:Act} {Q:Exit->Act->World->Prop} (hgd:o.guard=none) (s x:Operand)
  (ho:o.op=.call { callee:=.builtin .append,args:=#[s,x],argTypes:=#[119,119] })
  (base:Nat) (v:Value) (l:List UInt32) (hs:a.eval s=v) (hown:OwnW w base v l)
  (S:Nat->Prop) (A:Option Addr) (m c:Nat) (r:List UInt32) (hx:a.eval x=.slice A m c) (hr:Rd w S 1 A m (r.map u32v))
  (hlen:l.length+m<=1099511627776) (hbase:base<=w.heap.size)
  (h:∀v' w',OwnW w' base v' (l++r)->w.grownBy w' v.ownBlock->(v'.ownBlock=v.ownBlock∨v'.ownBlock=some w.heap.size)->wpList Tryz.prog ops Q rest (a.put o.dst v') w') :
  wpList Tryz.prog ops Q (o::rest) a w:=by
 obtain ⟨i0,hi,hz0,hz1,hz2⟩:=info_parts info_u32
 refine wpList_plain hgd fun _ hK=>wp_app w s x _ ho base _ i0 _ 1 4 Tryz.underlying119 hi hz0 hz1 hz2 rfl (by omega) v l.length _ hs hown S A m c (r.map u32v) hx hr (one_u32 r) (by simp only [maxLen];omega) (by omega) hbase fun v' w' h2 h3 h4=>hK _ _ (h v' w' ?_ h3 h4)
 have hm:r.length=m:=by simpa using hr.1
 subst hm
 unfold OwnW
 simpa using h2

theorem Rd.oneW {w:World} (b:UInt32) (t:TypeId):Rd (w.alloc (.cells #[.int .u32 (b.toNat:Int)] t)) (w.heap.size<=·) 1 (some ⟨w.heap.size,0,none⟩) 1 ([b].map u32v):=by
 refine ⟨rfl,fun _=>⟨_,0,rfl,⟨by simp,Nat.le_refl _⟩,fun j u hu=>?_⟩⟩
 rw [cell_of_row _ _ _ _ _ _ (heap_alloc_new w _)]
 rcases j with _|j
 ·simpa using hu
 ·simp at hu

def RetW (w:World) (l:List UInt32) (e:Ending) (w':World):Prop:=∃v,e=.returned v∧OwnW w' w.heap.size v l∧Below w.heap.size w w'
theorem begins_ref (w:World):Calls Tryz.prog 69 #[] w (RetW w Bl.begins):=by
 go_enter Tryz.func69,Tryz.ntmps69
 go_wp2
 go_ret
 refine ⟨_,rfl,⟨rfl,.inr ⟨w.heap.size,8,_,rfl,Nat.le_refl _,heap_alloc_new w _,by simp [Bl.begins],by simp [maxLen],rfl,rfl⟩⟩,(Below.refl _ _).alloc (Nat.le_refl _) _⟩

theorem le_sum {a b c d:UInt8} {z:Int} (h:z=(a.toNat:Int)+(b.toNat:Int)*256+(c.toNat:Int)*65536+(d.toNat:Int)*16777216):z=((le32 a b c d).toNat:Int):=by
 have h1:=u8_lt a;have h2:=u8_lt b;have h3:=u8_lt c;have h4:=u8_lt d
 unfold le32
 rw [UInt32.toNat_ofNat',h]
 omega
end Go.Proofs.YtjjodibkmeefpaaGreatDoor.Old

namespace Go.Proofs.YtjjodibkmeefpaaGreatDoor.Old
open Go Go.RowKit
attribute [local go_sem high] bop_add32 bop_xor32 bop_or32 uop_not32

theorem words_succ (b:List UInt8) (k:Nat):Bl.words b (k+1)=Bl.words b k++[Bl.wordAt b k]:=by simp [Bl.words,List.range_succ]
theorem words_len (b:List UInt8) (k:Nat):(Bl.words b k).length=k:=by simp [Bl.words]
theorem fin_succ (h s:List UInt32) (k:Nat):Bl.fin h s (k+1)=Bl.fin h s k++[xor32 (h.getD k 0) (xor32 (s.getD k 0) (s.getD (k+8) 0))]:=by simp [Bl.fin,List.range_succ]
theorem Rd.word {w:World} {S:Nat->Prop} {A:Option Addr} {n:Nat} {l:List UInt32} (h:Rd w S 1 A n (l.map u32v)) {k:Nat} (hk:k<n):∃g o x,A=some ⟨g,o,none⟩∧(g<w.heap.size∧S g)∧l.getD k 0=x∧w.cell? ⟨g,o+k,none⟩=some (.int .u32 (x.toNat:Int)):=by
  obtain ⟨g,o,u,e,hb,hu,hc⟩:=h.cell (k:=k) (by omega) (by omega)
  rw [List.getElem?_map] at hu
  cases hx:l[k]? with
  | none=>rw [hx] at hu;cases hu
  | some b=>rw [hx] at hu;cases hu;exact ⟨g,o,b,e,hb,by rw [List.getD_eq_getElem?_getD,hx];rfl,hc⟩

theorem step_app_w {w:World} {ops:Array Oper} {o:Oper} {a:Act} {K:Act->World->Prop} {Q:Exit->Act->World->Prop} {E:Prop} (hgd:o.guard=none) (s x:Operand)
    (ho:o.op=.call { callee:=.builtin .append,args:=#[s,x],argTypes:=#[119,119] })
    (base:Nat) (v:Value) (l:List UInt32) (hs:a.eval s=v) (hown:OwnW w base v l)
    (S:Nat->Prop) (A:Option Addr) (m c:Nat) (r:List UInt32) (hx:a.eval x=.slice A m c) (hr:Rd w S 1 A m (r.map u32v))
    (hlen:l.length+m<=1099511627776) (hbase:base<=w.heap.size)
    (h:∀v' w',OwnW w' base v' (l++r)->w.grownBy w' v.ownBlock->(v'.ownBlock=v.ownBlock∨v'.ownBlock=some w.heap.size)->K (a.put o.dst v') w') :
    if Region.wanted o (yielded ops a.tmps)=true then Oper.wp Tryz.prog o a w K Q else E:=by
  have hw:Region.wanted o (yielded ops a.tmps)=true:=by simp [Region.wanted,hgd]
  rw [if_pos hw]
  obtain ⟨i0,hi,hz0,hz1,hz2⟩:=info_parts info_u32
  refine wp_app w s x _ ho base _ i0 _ 1 4 Tryz.underlying119 hi hz0 hz1 hz2 rfl (by omega) v l.length _ hs hown S A m c (r.map u32v) hx hr (one_u32 r) (by simp only [maxLen];omega) (by omega) hbase fun v' w' h2 h3 h4=>h v' w' ?_ h3 h4
  have hm:r.length=m:=by simpa using hr.1
  subst hm
  unfold OwnW
  simpa using h2

theorem Rw2.at_ {w:World} {B g n c:Nat} {ll:List (List Nat)} (h:Rw2 w B (.slice (some ⟨g,0,none⟩) n c) ll) {k:Nat} {l:List Nat} (hl:ll[k]?=some l) :
    ∃q,B<=q∧w.cell? ⟨g,k,none⟩=some (.slice (some ⟨q,0,none⟩) l.length l.length)∧w.heap[q]?=some (.cells (l.map fun (x:Nat)=>Value.int .i64 (x:Int)).toArray 3 (0,0)):=by
  obtain ⟨g',c',e,_,_,hr⟩:=h
  cases e
  obtain ⟨q,h1,_,h3,h4⟩:=hr k l hl
  exact ⟨q,h1,h3,h4⟩
theorem orders_at:∀k,k<10->∃l,Bl.orders[k]?=some l∧Bl.orders.getD k []=l∧l.length=16∧∀j,j<16->l.getD j 0<16:=by
  intro k hk
  have h1:k<Bl.orders.length:=hk
  have h2:∀l∈Bl.orders,l.length=16∧∀j,j<16->l.getD j 0<16:=by decide
  obtain ⟨h3,h4⟩:=h2 _ (List.getElem_mem h1)
  exact ⟨Bl.orders[k],List.getElem?_eq_getElem h1,by rw [List.getD_eq_getElem?_getD,List.getElem?_eq_getElem h1];rfl,h3,h4⟩
theorem num_cell {w:World} {q:Nat} {l:List Nat} (h:w.heap[q]?=some (.cells (l.map fun (x:Nat)=>Value.int .i64 (x:Int)).toArray 3 (0,0))) {j:Nat} (hj:j<l.length):w.cell? ⟨q,j,none⟩=some (.int .i64 ((l.getD j 0:Nat):Int)):=by
  rw [cell_of_row _ _ _ _ _ _ h]
  simp [hj]

structure PS (w wr:World) (g gm:Nat) (s m:List UInt32) (ov pv:Value) (Bm Bo Bp:Nat):Prop where
  s:R32 wr g s
  m:R32 wr gm m
  o:Rw2 wr Bo ov Bl.orders
  p:Rw2 wr Bp pv placesL
  b:Below w.heap.size w wr
  wg:w.heap.size<=g
  gm:gm<g
  go:g<Bo
  gp:g<Bp
theorem PS.step {w wr w':World} {g gm:Nat} {s s' m:List UInt32} {ov pv:Value} {Bm Bo Bp:Nat} (h:PS w wr g gm s m ov pv Bm Bo Bp) (hs:R32 w' g s') (hf:Fr (·=g) wr w'):PS w w' g gm s' m ov pv Bm Bo Bp :=
  ⟨hs,h.m.fr hf (by have:=h.gm;omega),h.o.keep (fun q hq hb=>hf.block q hq (by have:=h.go;omega)),h.p.keep (fun q hq hb=>hf.block q hq (by have:=h.gp;omega)),
    h.b.trans (hf.below h.b.size (fun q e=>by have:=h.wg;omega)),h.wg,h.gm,h.go,h.gp⟩
theorem PS.drew {w wr:World} {g gm:Nat} {s m:List UInt32} {ov pv:Value} {Bm Bo Bp:Nat} (h:PS w wr g gm s m ov pv Bm Bo Bp):PS w wr.drew g gm s m ov pv Bm Bo Bp :=
  h.step (s':=s) (h.s) (Fr.refl.drew)

set_option maxRecDepth 100000 in
set_option maxHeartbeats 4000000 in
theorem press_ref {S S':Nat->Prop} (Ah:Option Addr) (ch:Nat) (h:List UInt32) (bv:Value) (b:List UInt8) (count:Nat) (last:Bool) (w:World) (hh:h.length=8) (hb:b.length=64) (hcb:count<=1000000000000000)
    (Hh:Rd w S 1 Ah 8 (h.map u32v)) (Hb:Bs w S' bv b) :
    Calls Tryz.prog 70 #[.slice Ah 8 ch,bv,.int .u64 count,.bool last] w (RetW w (Bl.press h b count last)):=by
  obtain ⟨Ab,cb,rfl,_,_,hrb⟩:=Hb.op
  rw [hb] at hrb
  rw [hb]
  have HB:=Lib.hid hrb
  have HBL:=Lib.hid hb
  have HHL:=Lib.hid hh
  have HH:=Lib.hid Hh
  clear Hb hrb hb hh Hh
  go_enter Tryz.func70,Tryz.ntmps70
  go_wp2
  go_loopw [9,10] (fun v i wr=>∃k n:Nat,k<=16∧n=4*k∧i=.int .i64 n∧OwnW wr w.heap.size v (Bl.words b k)∧Below w.heap.size w wr) (fun _ i _=>64 - (intOf i).toNat)
  case atStart=>exact ⟨0,0,by omega,rfl,rfl,OwnW.nil _ _,Below.refl _ _⟩
  case round =>
    obtain ⟨k,n,hk,hn,rfl,hown,hB⟩:=hrel
    have HO:=Lib.hid hown
    have HBel:=Lib.hid hB
    have hsz:=hB.size
    clear hown hB
    by_cases hlt:k<16
    · obtain ⟨g,o,_,rfl,⟨hgl,_⟩,_,_⟩:=HB.out.byte (k:=n) (by omega)
      obtain ⟨g1,o1,x0,e1,_,hx0,c0⟩:=(HB.out.below HBel.out (Nat.le_refl _)).byte (k:=n) (by omega)
      cases e1
      obtain ⟨g1,o1,x1,e1,_,hx1,c1⟩:=(HB.out.below HBel.out (Nat.le_refl _)).byte (k:=n+1) (by omega)
      cases e1
      obtain ⟨g1,o1,x2,e1,_,hx2,c2⟩:=(HB.out.below HBel.out (Nat.le_refl _)).byte (k:=n+2) (by omega)
      cases e1
      obtain ⟨g1,o1,x3,e1,_,hx3,c3⟩:=(HB.out.below HBel.out (Nat.le_refl _)).byte (k:=n+3) (by omega)
      cases e1
      have HX:Hid (Bl.wordAt b k=le32 x0 x1 x2 x3):=by
        unfold Hid Bl.wordAt
        rw [←hn]
        simp only [List.getD_eq_getElem?_getD,hx0,hx1,hx2,hx3]
        rfl
      clear hx0 hx1 hx2 hx3
      have l0:=u8_lt x0
      have l1:=u8_lt x1
      have l2:=u8_lt x2
      have l3:=u8_lt x3
      have hn64:n+3<64:=by omega
      have HN:=Lib.hid hn
      clear hn
      have hi0:(n:Int)<64:=by omega
      go_wp2
      have ha1:0<=(n:Int)+1:=by omega
      have hb1:(n:Int)+1<64:=by omega
      have ht1:((n:Int)+1).toNat=n+1:=by omega
      have ha2:0<=(n:Int)+2:=by omega
      have hb2:(n:Int)+2<64:=by omega
      have ht2:((n:Int)+2).toNat=n+2:=by omega
      have ha3:0<=(n:Int)+3:=by omega
      have hb3:(n:Int)+3<64:=by omega
      have ht3:((n:Int)+3).toNat=n+3:=by omega
      have hw1:IntKind.i64.wrap ((n:Int)+1)=(n:Int)+1:=IntWalk.i64_in _ (by omega)
      have hw2:IntKind.i64.wrap ((n:Int)+2)=(n:Int)+2:=IntWalk.i64_in _ (by omega)
      have hw3:IntKind.i64.wrap ((n:Int)+3)=(n:Int)+3:=IntWalk.i64_in _ (by omega)
      have hv0:IntKind.u32.wrap (x0.toNat:Int)=(x0.toNat:Int):=by rw [IntKind.wrap_u32'];omega
      have hv1:IntKind.u32.wrap (x1.toNat:Int)=(x1.toNat:Int):=by rw [IntKind.wrap_u32'];omega
      have hv2:IntKind.u32.wrap (x2.toNat:Int)=(x2.toNat:Int):=by rw [IntKind.wrap_u32'];omega
      have hv3:IntKind.u32.wrap (x3.toNat:Int)=(x3.toNat:Int):=by rw [IntKind.wrap_u32'];omega
      have hm1:IntKind.u32.wrap ((x1.toNat:Int)*256)=(x1.toNat:Int)*256:=by rw [IntKind.wrap_u32'];omega
      have hm2:IntKind.u32.wrap ((x2.toNat:Int)*65536)=(x2.toNat:Int)*65536:=by rw [IntKind.wrap_u32'];omega
      have hm3:IntKind.u32.wrap ((x3.toNat:Int)*16777216)=(x3.toNat:Int)*16777216:=by rw [IntKind.wrap_u32'];omega
      have hs1:IntKind.u32.wrap ((x0.toNat:Int)+(x1.toNat:Int)*256)=(x0.toNat:Int)+(x1.toNat:Int)*256:=by rw [IntKind.wrap_u32'];omega
      have hs2:IntKind.u32.wrap ((x0.toNat:Int)+(x1.toNat:Int)*256+(x2.toNat:Int)*65536)=(x0.toNat:Int)+(x1.toNat:Int)*256+(x2.toNat:Int)*65536:=by rw [IntKind.wrap_u32'];omega
      obtain ⟨x,hx,hs3⟩:∃x:UInt32,Hid (le32 x0 x1 x2 x3=x)∧IntKind.u32.wrap ((x0.toNat:Int)+(x1.toNat:Int)*256+(x2.toNat:Int)*65536+(x3.toNat:Int)*16777216)=(x.toNat:Int):=⟨_,rfl,by rw [IntKind.wrap_u32',Int.emod_eq_of_lt (by omega) (by omega)];exact le_sum rfl⟩
      have hlen:(Bl.words b k).length+1<=1099511627776:=by rw [words_len];omega
      have hgo:=fun k hk=>(HO.out.lt k hk).1
      have HGO:=Lib.hid hgo
      clear hgo
      go_region_held3 (fun W=>W.cell? ⟨g,o+n,none⟩=some (.int .u8 (x0.toNat:Int))∧W.cell? ⟨g,o+(n+1),none⟩=some (.int .u8 (x1.toNat:Int))∧W.cell? ⟨g,o+(n+2),none⟩=some (.int .u8 (x2.toNat:Int))∧W.cell? ⟨g,o+(n+3),none⟩=some (.int .u8 (x3.toNat:Int)))
        (first
          | go_keep
          | (go_split_ands
             refine ⟨?_,?_,?_,?_⟩
             · (rw [hgrow.cell_far _ (by simp;omega) (fun e=>by have:=HGO.out _ e.symm;simp at this;omega)];assumption)
             · (rw [hgrow.cell_far _ (by simp;omega) (fun e=>by have:=HGO.out _ e.symm;simp at this;omega)];assumption)
             · (rw [hgrow.cell_far _ (by simp;omega) (fun e=>by have:=HGO.out _ e.symm;simp at this;omega)];assumption)
             · (rw [hgrow.cell_far _ (by simp;omega) (fun e=>by have:=HGO.out _ e.symm;simp at this;omega)];assumption)))
        (first
          | (refine step_app_w rfl (.tmp 22) (.tmp 52) rfl w.heap.size _ (Bl.words b k) rfl (OwnW.drew (HO.out.alloc _)) (wr.heap.size<=·) (some ⟨wr.heap.size,0,none⟩) 1 1 [x] rfl (Rd.oneW x _) hlen (by simp;omega) ?_;intro v' w1 hown' hgrow _))
      go_wp2
      have hb1:Below w.heap.size w w1:=(below_drew (HBel.out.alloc hsz _)).grown hgrow (by simp;omega) (fun g hg=>(HO.out.lt g hg).1)
      go_roundw
      case rel =>
        refine ⟨k+1,n+4,by omega,by have:=HN.out;omega,by go_num,?_,hb1⟩
        rw [words_succ,HX.out,hx.out]
        exact hown'
      case measure=>simp [intOf];omega
    · obtain rfl:k=16:=by omega
      obtain rfl:n=64:=by omega
      clear hk hlt hn
      rw [show ((64:Nat):Int)=64 from rfl]
      obtain ⟨wm,rfl⟩:∃wm,wm=wr:=⟨_,rfl⟩
      obtain ⟨gm,cm,rfl,hgm1,hgm2,hrm,hcm,hcm2⟩:=HO.out.at_ (by rw [words_len];omega)
      rw [words_len] at hcm
      rw [words_len]
      have HM:=Lib.hid hrm
      clear hrm HO HB
      have hm1:([]:List UInt32).length+8<=1099511627776:=by decide
      have hm2:([]++h).length+8<=1099511627776:=by rw [List.nil_append,HHL.out];decide
      go_upto_region 9 with (first
        | (at_builtin;refine app_w rfl (.tmp 54) (.tmp 55) rfl wm.heap.size _ [] rfl (OwnW.nil _ _) S Ah 8 ch h rfl (HH.out.below HBel.out (Nat.le_refl _)) hm1 (Nat.le_refl _) ?_;intro v1 w1 ho1 hg1 _;have hb1:Below wm.heap.size wm w1:=(Below.refl _ _).grown hg1 (Nat.le_refl _) (fun g hg=>by cases hg);have HB1:=Lib.hid hb1;have HO1:=Lib.hid ho1;clear hg1 hb1 ho1)
        | (go_at_call 69;refine (begins_ref _).mono ?_;rintro e w2 ⟨v2,rfl,ho2,hb2⟩;obtain ⟨g2,c2,rfl,_,_,hr2,_,_⟩:=ho2.at_ (by decide);have HR2:=Lib.hid hr2;have HB2:=Lib.hid (HB1.out.trans (hb2.mono HB1.out.size));have HO2:=Lib.hid (HO1.out.below hb2 (Nat.le_refl _));clear hb2 ho2 hr2 HO1 HB1)
        | (at_builtin;refine app_w rfl (.tmp 57) (.tmp 58) rfl wm.heap.size _ ([]++h) rfl HO2.out (fun _=>True) (some ⟨g2,0,none⟩) 8 c2 Bl.begins rfl (HR2.out.rd trivial rfl) hm2 HB2.out.size ?_;intro v3 w3 ho3 hg3 _;have hb3:Below wm.heap.size wm w3:=HB2.out.grown hg3 HB2.out.size (fun g hg=>(HO2.out.lt g hg).1);have HB3:=Lib.hid hb3;have HO3:=Lib.hid ho3;clear hg3 hb3 ho3 HO2 HB2 HR2))
      have HSL:Hid ((h++Bl.begins).length=16):=by unfold Hid;rw [List.length_append,HHL.out];rfl
      obtain ⟨g,c,rfl,hg1,hg2,hrs,hc1,hc2⟩:=HO3.out.at_ (by rw [List.nil_append,HSL.out];omega)
      rw [List.nil_append] at hrs hc1
      rw [List.nil_append]
      rw [HSL.out] at hc1
      rw [HSL.out]
      have HS:=Lib.hid hrs
      have HM3:=Lib.hid (HM.out.keep (HB3.out.block gm hgm2))
      have HB4:=Lib.hid (HBel.out.trans (HB3.out.mono HBel.out.size))
      clear hrs HO3 HM
      obtain ⟨x12,e12,hx12,hf12⟩:=HS.out.get (i:=12) (by rw [HSL.out];omega)
      obtain ⟨z1,hz1,hcw⟩:∃z:UInt32,Hid (UInt32.ofNat count=z)∧IntKind.u32.wrap ((count:Int) % 4294967296)=(z.toNat:Int):=⟨_,rfl,by rw [IntKind.wrap_u32'];simp⟩
      obtain ⟨z2,hz2,hcv⟩:∃z:UInt32,Hid (UInt32.ofNat (count / 4294967296)=z)∧IntKind.u32.wrap ((count:Int) / 4294967296)=(z.toNat:Int):=⟨_,rfl,by rw [IntKind.wrap_u32'];simp⟩
      obtain ⟨x13,e13,hx13,hf13⟩:=HS.out.get (i:=13) (by rw [HSL.out];omega)
      go_upto_if 78 with (fail)
      have hP4:=(HS.out.set 12 (xor32 x12 z1)).set 13 (xor32 x13 z2)
      have hb4:Fr (·=g) w3 ((w3.setCell ⟨g,12,none⟩ (.int .u32 ((xor32 x12 z1).toNat:Int))).setCell ⟨g,13,none⟩ (.int .u32 ((xor32 x13 z2).toNat:Int))):=(Fr.setCell (T:=(·=g)) _ rfl).trans (Fr.setCell (T:=(·=g)) _ rfl) (fun _ _ h=>h)
      generalize (w3.setCell ⟨g,12,none⟩ (.int .u32 ((xor32 x12 z1).toNat:Int))).setCell ⟨g,13,none⟩ (.int .u32 ((xor32 x13 z2).toNat:Int))=w4 at hP4 hb4 ⊢
      have HP4:=Lib.hid hP4
      have HF4:=Lib.hid hb4
      clear hP4 hb4 hx12 hf12 hx13 hf13 hcw hcv HS
      obtain ⟨x14,e14,c14,f14⟩:=HP4.out.get (i:=14) (by simp only [List.length_set];rw [HSL.out];omega)
      have HST:Hid (Bl.start h count last=if last then (((h++Bl.begins).set 12 (xor32 x12 z1)).set 13 (xor32 x13 z2)).set 14 (not32 x14) else ((h++Bl.begins).set 12 (xor32 x12 z1)).set 13 (xor32 x13 z2)):=by
        have a1:=e12.out;have a2:=e13.out;have a3:=e14.out;have a4:=hz1.out;have a5:=hz2.out
        have e:((h++Bl.begins).set 12 (xor32 x12 z1)).getD 13 0=x13:=by rw [←a2];simp
        have e2:UInt32.ofNat (count / 4294967296)=z2:=a5
        unfold Hid Bl.start
        simp only [a1,a4,e,e2,a3]
      go_cut [78] (fun _ wx=>R32 wx g (Bl.start h count last)∧Fr (·=g) w3 wx)
      case first =>
        cases last
        · go_wp2_with fail
          go_meet
          exact ⟨by rw [HST.out];exact HP4.out,HF4.out⟩
        · go_wp2_with fail
          go_meet
          exact ⟨by rw [HST.out];exact HP4.out.set 14 _,HF4.out.trans (Fr.setCell (T:=(·=g)) _ rfl) (fun _ _ h=>h)⟩
      case rest =>
        obtain ⟨hP5,hf5⟩:=hcut
        have HP5:=Lib.hid hP5
        have HB5:=Lib.hid (HB4.out.trans (hf5.below HB4.out.size (fun q e=>by omega)))
        have HM5:=Lib.hid (HM3.out.fr hf5 (by omega))
        have HSL5:Hid ((Bl.start h count last).length=16):=by rw [HST.out];cases last <;> simpa [Hid] using HSL.out
        have hg5:g<wc.heap.size:=hP5.lt
        clear hP5 hf5 c14 f14 e14 e12 e13 hz1 hz2 HST HP4 HF4 HM3 HB4 HSL
        generalize hs0:Bl.start h count last=s0 at *
        have HS0:=Lib.hid hs0
        clear hs0
        go_upto_region 15 with (first
          | (go_at_call 84;refine (orders_ref _).mono ?_;rintro e w6 ⟨ov,rfl,ho6,hb6⟩;have HO6:=Lib.hid ho6;have HB6:=Lib.hid (HB5.out.trans (hb6.mono HB5.out.size));have HP6:=Lib.hid (HP5.out.keep (hb6.block _ HP5.out.lt));have HM6:=Lib.hid (HM5.out.keep (hb6.block _ HM5.out.lt));have hz6:=hb6.size;clear ho6 hb6)
          | (go_at_call 85;refine (places_ref _).mono ?_;rintro e w7 ⟨pv,rfl,hp7,hb7⟩;have HPS:Hid (PS w w7 g gm s0 (Bl.words b 16) ov pv 0 wc.heap.size w6.heap.size):=⟨HP6.out.keep (hb7.block _ HP6.out.lt),HM6.out.keep (hb7.block _ HM6.out.lt),HO6.out.keep (fun q hq _=>hb7.block q hq),hp7,HB6.out.trans (hb7.mono HB6.out.size),by omega,by omega,by omega,by omega⟩;clear hp7 hb7))
        clear HO6 HB6 HP6 HM6 HP5 HB5 HM5
        obtain ⟨go,co,hov,_,_,_⟩:=HPS.out.o
        obtain ⟨gq,cq,hpv,_,_,_⟩:=HPS.out.p
        have hov:ov=.slice (some ⟨go,0,none⟩) 10 co:=hov
        have hpv:pv=.slice (some ⟨gq,0,none⟩) 8 cq:=hpv
        subst hov hpv
        have HML:=Lib.hid (words_len b 16)
        generalize hbo:wc.heap.size=Bo at *
        generalize hbp:w6.heap.size=Bp at *
        clear hbo hbp
        go_wp2_with fail
        go_loopw [14] (fun r wr=>∃k:Nat,k<=10∧r=.int .i64 k∧PS w wr g gm (Bl.rounds s0 (Bl.words b 16) k) (Bl.words b 16) (.slice (some ⟨go,0,none⟩) 10 co) (.slice (some ⟨gq,0,none⟩) 8 cq) 0 Bo Bp) (fun r _=>10 - (intOf r).toNat)
        case atStart=>exact ⟨0,by omega,rfl,HPS.out⟩
        case round =>
          clear HPS
          obtain ⟨k,hk,rfl,hps⟩:=hrel
          have HPS:=Lib.hid hps
          clear hps
          by_cases hlt:k<10
          · obtain ⟨l,hl1,hl2,hl3,hl4⟩:=orders_at k hlt
            have HL1:=Lib.hid hl1
            have HL2:=Lib.hid hl2
            have HL3:=Lib.hid hl3
            have HL4:=Lib.hid hl4
            clear hl1 hl2 hl3 hl4
            have hk1:(k:Int)<10:=by omega
            obtain ⟨wo,rfl⟩:∃wo:World,wo=wr:=⟨_,rfl⟩
            have HSK:Hid ((Bl.rounds s0 (Bl.words b 16) k).length=16):=by unfold Hid;rw [Bl.len_rounds];exact HSL5.out
            generalize hsk:Bl.rounds s0 (Bl.words b 16) k=sk at HPS HSK
            have HSR:=Lib.hid hsk
            clear hsk
            go_wp2_with fail
            go_loopw [15] (fun i wr=>∃j:Nat,j<=8∧i=.int .i64 j∧PS w wr g gm (Bl.round sk (Bl.words b 16) l j) (Bl.words b 16) (.slice (some ⟨go,0,none⟩) 10 co) (.slice (some ⟨gq,0,none⟩) 8 cq) 0 Bo Bp) (fun i _=>8 - (intOf i).toNat)
            case atStart=>exact ⟨0,by omega,rfl,HPS.out⟩
            case round =>
              clear HPS
              obtain ⟨j,hj,rfl,hps⟩:=hrel
              have HPS:=Lib.hid hps
              clear hps
              by_cases hjt:j<8
              · have HRL:Hid ((Bl.round sk (Bl.words b 16) l j).length=16):=by unfold Hid;rw [Bl.len_round];exact HSK.out
                have HKS:Hid (Bl.round sk (Bl.words b 16) l (j+1)=Bl.kstir (Bl.round sk (Bl.words b 16) l j) (Bl.words b 16) l j):=rfl
                generalize hst:Bl.round sk (Bl.words b 16) l j=st at HPS HRL HKS
                clear hst
                have hj1:(j:Int)<8:=by omega
                obtain ⟨q,hq1,cq1,hq2⟩:=HPS.out.p.at_ (places_at j hjt)
                obtain ⟨qo,hqo1,co1,hqo2⟩:=HPS.out.o.at_ HL1.out
                rw [HL3.out] at co1
                have cd:=num_cell hqo2 (j:=2*j) (by rw [HL3.out];omega)
                have hd:=HL4.out (2*j) (by omega)
                generalize hdx:l.getD (2*j) 0=d1 at cd hd
                obtain ⟨x,ex,cx,_⟩:=HPS.out.m.get (i:=d1) (by rw [HML.out];exact hd)
                have HQ:=Lib.hid hq2
                have HQO:=Lib.hid hqo2
                have HDX:=Lib.hid hdx
                clear hq2 hqo2 hdx
                have hd1:(d1:Int)<16:=by omega
                have cq1:wr.cell? ⟨gq,j,none⟩=some (.slice (some ⟨q,0,none⟩) 4 4):=cq1
                have hgq:q≠g:=by have:=HPS.out.gp;omega
                have hqog:qo≠g:=by have:=HPS.out.go;omega
                go_wp2_with fail
                have hw0:IntKind.i64.wrap (2*(j:Int))=2*(j:Int):=IntWalk.i64_in _ (by omega)
                have ha0:0<=2*(j:Int):=by omega
                have hb0:2*(j:Int)<16:=by omega
                have ht0:(2*(j:Int)).toNat=2*j:=by omega
                refine region_tail 16 (by kernel_rfl) (by kernel_rfl) ?_
                simp only [List.take_succ_cons,List.take_zero,List.drop_succ_cons,List.drop_zero]
                repeat still_step
                refine wpStill_nil ?_
                clear hw0 ha0 hb0 ht0
                go_wp2_with (go_at_call 86;refine (half16 g q c _ _ _ _ x st _ HPS.out.drew.s HQ.out hgq HRL.out (by omega) (by omega) (by omega) (by omega)).mono ?_;rintro e w8 ⟨rfl,hr8,hf8⟩;have HPS8:=Lib.hid (HPS.out.drew.step hr8 hf8);have HF8:=Lib.hid hf8;clear hr8 hf8)
                have HRL8:Hid ((Bl.half st (j % 4) (4+(j % 4+j / 4) % 4) (8+(j % 4+2*(j / 4)) % 4) (12+(j % 4+3*(j / 4)) % 4) x 16 12).length=16):=by unfold Hid;rw [Bl.len_half];exact HRL.out
                obtain ⟨q',_,cq1',hq2'⟩:=HPS8.out.p.at_ (places_at j hjt)
                obtain ⟨qo',hqo1',co1',hqo2'⟩:=HPS8.out.o.at_ HL1.out
                rw [HL3.out] at co1'
                have cd':=num_cell hqo2' (j:=2*j+1) (by rw [HL3.out];omega)
                have hd':=HL4.out (2*j+1) (by omega)
                generalize hdx':l.getD (2*j+1) 0=d2 at cd' hd'
                obtain ⟨y,ey,cy,_⟩:=HPS8.out.m.get (i:=d2) (by rw [HML.out];exact hd')
                have HQ':=Lib.hid hq2'
                have HDX':=Lib.hid hdx'
                clear hq2' hqo2' hdx' HQO HQ cq1 co1 cd cx HPS HF8
                have hd2:(d2:Int)<16:=by omega
                have cq1':w8.cell? ⟨gq,j,none⟩=some (.slice (some ⟨q',0,none⟩) 4 4):=cq1'
                have hgq':q'≠g:=by have:=HPS8.out.gp;omega
                have hw0:IntKind.i64.wrap (2*(j:Int))=2*(j:Int):=IntWalk.i64_in _ (by omega)
                have hw1:IntKind.i64.wrap (2*(j:Int)+1)=2*(j:Int)+1:=IntWalk.i64_in _ (by omega)
                have ha0:0<=2*(j:Int)+1:=by omega
                have hb0:2*(j:Int)+1<16:=by omega
                have ht0:(2*(j:Int)+1).toNat=2*j+1:=by omega
                refine region_tail 17 (by kernel_rfl) (by kernel_rfl) ?_
                simp only [List.take_succ_cons,List.take_zero,List.drop_succ_cons,List.drop_zero]
                repeat still_step
                refine wpStill_nil ?_
                clear hw0 ha0 hb0 ht0 hw1
                go_wp2_with (go_at_call 86;refine (half8 g q' c _ _ _ _ y _ _ HPS8.out.drew.s HQ'.out hgq' HRL8.out (by omega) (by omega) (by omega) (by omega)).mono ?_;rintro e w9 ⟨rfl,hr9,hf9⟩;have HPS9:=Lib.hid (HPS8.out.drew.step hr9 hf9);clear hr9 hf9)
                go_roundw
                case rel =>
                  refine ⟨j+1,by omega,by go_num,?_⟩
                  rw [HKS.out]
                  unfold Bl.kstir Bl.stir
                  rw [HDX.out,HDX'.out,ex.out,ey.out]
                  exact HPS9.out
                case measure=>simp [intOf];omega
              · obtain rfl:j=8:=by omega
                rw [show ((8:Nat):Int)=8 from rfl]
                go_wp2_with fail
                go_roundw
                case rel =>
                  refine ⟨k+1,by omega,by go_num,?_⟩
                  show PS w _ g gm (Bl.round (Bl.rounds s0 (Bl.words b 16) k) (Bl.words b 16) (Bl.orders.getD k []) 8) _ _ _ _ _ _
                  rw [HL2.out,HSR.out]
                  exact HPS.out
                case measure=>simp [intOf];omega
          · obtain rfl:k=10:=by omega
            rw [show ((10:Nat):Int)=10 from rfl]
            have HSK:Hid ((Bl.rounds s0 (Bl.words b 16) 10).length=16):=by unfold Hid;rw [Bl.len_rounds];exact HSL5.out
            have HPR:Hid (Bl.press h b count last=Bl.fin h (Bl.rounds s0 (Bl.words b 16) 10) 8):=by unfold Hid Bl.press;rw [HS0.out]
            have HRS:=Lib.hid HPS.out.s
            have HRB:=Lib.hid HPS.out.b
            generalize Bl.rounds s0 (Bl.words b 16) 10=s at HRS HSK HPR
            obtain ⟨wz,rfl⟩:∃wz:World,wz=wr:=⟨_,rfl⟩
            clear HPS HS0 HSL5 HML
            go_wp2_with fail
            go_loopw [16,17] (fun v i wr=>∃k:Nat,k<=8∧i=.int .i64 k∧OwnW wr wz.heap.size v (Bl.fin h s k)∧Below wz.heap.size wz wr) (fun _ i _=>8 - (intOf i).toNat)
            case atStart=>exact ⟨0,by omega,rfl,OwnW.nil _ _,Below.refl _ _⟩
            case round =>
              obtain ⟨i,hi,rfl,hown,hB⟩:=hrel
              have HO:=Lib.hid hown
              have HBz:=Lib.hid hB
              have hsz:=hB.size
              clear hown hB
              have hgz:g<wz.heap.size:=HRS.out.lt
              by_cases hlt:i<8
              · have hbw:=HRB.out.trans (HBz.out.mono HRB.out.size)
                obtain ⟨gh,oh,xh,rfl,⟨hghl,_⟩,hxh,ch0⟩:=HH.out.word (k:=i) (by omega)
                have chh:wr.cell? ⟨gh,oh+i,none⟩=some (.int .u32 (xh.toNat:Int)):=(hbw.cell (p:=⟨gh,oh+i,none⟩) hghl).trans ch0
                obtain ⟨y,ey,cy,_⟩:=(HRS.out.keep (HBz.out.block g hgz)).get (i:=i) (by rw [HSK.out];omega)
                obtain ⟨z,ez,cz,_⟩:=(HRS.out.keep (HBz.out.block g hgz)).get (i:=i+8) (by rw [HSK.out];omega)
                have HXH:=Lib.hid hxh
                have hghz:gh<wz.heap.size:=by have:=HRB.out.size;omega
                clear hxh ch0 hbw
                have hi1:(i:Int)<8:=by omega
                have hi16:(i:Int)<16:=by omega
                have hw1:IntKind.i64.wrap ((i:Int)+8)=(i:Int)+8:=IntWalk.i64_in _ (by omega)
                have ha1:0<=(i:Int)+8:=by omega
                have hb1:(i:Int)+8<16:=by omega
                have ht1:((i:Int)+8).toNat=i+8:=by omega
                have hlen:(Bl.fin h s i).length+1<=1099511627776:=by rw [Bl.len_fin];omega
                have hgo:=fun k hk=>(HO.out.lt k hk).1
                have HGO:=Lib.hid hgo
                clear hgo
                go_wp2_with fail
                go_region_held3 (fun W=>W.cell? ⟨gh,oh+i,none⟩=some (.int .u32 (xh.toNat:Int))∧W.cell? ⟨g,i,none⟩=some (.int .u32 (y.toNat:Int))∧W.cell? ⟨g,i+8,none⟩=some (.int .u32 (z.toNat:Int)))
                  (first
                    | go_keep
                    | (go_split_ands
                       refine ⟨?_,?_,?_⟩
                       · (rw [hgrow.cell_far _ (by simp;omega) (fun e=>by have:=HGO.out _ e.symm;simp at this;omega)];assumption)
                       · (rw [hgrow.cell_far _ (by simp;omega) (fun e=>by have:=HGO.out _ e.symm;simp at this;omega)];assumption)
                       · (rw [hgrow.cell_far _ (by simp;omega) (fun e=>by have:=HGO.out _ e.symm;simp at this;omega)];assumption)))
                  (first
                    | (refine step_app_w rfl (.tmp 134) (.tmp 150) rfl wz.heap.size _ (Bl.fin h s i) rfl (OwnW.drew (HO.out.alloc _)) (wr.heap.size<=·) (some ⟨wr.heap.size,0,none⟩) 1 1 [xor32 (xor32 xh y) z] rfl (Rd.oneW _ _) hlen (by simp;omega) ?_;intro v' w1 hown' hgrow _))
                go_wp2_with fail
                have hb2:Below wz.heap.size wz w1:=(below_drew (HBz.out.alloc hsz _)).grown hgrow (by simp;omega) (fun g hg=>(HO.out.lt g hg).1)
                go_roundw
                case rel =>
                  refine ⟨i+1,by omega,by go_num,?_,hb2⟩
                  rw [fin_succ,HXH.out,ey.out,ez.out,←xor32_assoc]
                  exact hown'
                case measure=>simp [intOf];omega
              · obtain rfl:i=8:=by omega
                rw [show ((8:Nat):Int)=8 from rfl]
                go_wp2_with fail
                go_ret
                exact ⟨_,rfl,by rw [HPR.out];exact HO.out.low HRB.out.size,HRB.out.trans (HBz.out.mono HRB.out.size)⟩
end Go.Proofs.YtjjodibkmeefpaaGreatDoor.Old

namespace Go.Proofs.YtjjodibkmeefpaaGreatDoor.Old
open Go Go.RowKit
attribute [local go_sem high] bop_add32 bop_xor32 bop_or32 uop_not32

structure KR (w wr:World):Prop where
 r:W8 wr w.heap.size 25 (List.replicate 32 0)
 b:Below w.heap.size w wr
theorem KR.lt {w wr:World} (K:KR w wr):w.heap.size+1<=wr.heap.size:=K.r.lt
theorem KR.below {w wr w':World} (K:KR w wr) {B:Nat} (hb:Below B wr w') (hB:w.heap.size<B):KR w w':=⟨K.r.keep (hb.block _ hB),K.b.trans (hb.mono (by omega))⟩
theorem KR.grown {w wr w':World} (K:KR w wr) {row:Option Nat} (hg:wr.grownBy w' row) (hr:∀g,row=some g->w.heap.size+1<=g):KR w w' :=
 ⟨K.r.keep (hg.block _ K.r.lt (fun e=>by have:=hr _ e.symm;omega)),K.b.grown hg K.b.size (fun g e=>by have:=hr g e;omega)⟩
theorem KR.alloc {w wr:World} (K:KR w wr) (o:Obj):KR w (wr.alloc o):=K.below ((Below.refl _ _).alloc (Nat.le_refl _) _) K.r.lt

def padk (key:List UInt8):List UInt8:=if key.length=0 then [] else key++List.replicate (64 - key.length) 0
theorem text_pad (key b:List UInt8):Bl.text key b=padk key++b:=by
 unfold Bl.text padk
 split <;> simp
theorem padk_len (key:List UInt8) (h:key.length<=32):(padk key).length<=64:=by
 unfold padk
 split <;> simp;omega
theorem rep_snoc (n:Nat):List.replicate (n+1) (0:UInt8)=List.replicate n 0++[0]:=List.replicate_succ'

theorem begun_ref (x y:UInt32):xor32 (xor32 x 0x01010020) y=xor32 x (xor32 (xor32 0x01010000 y) 32):=by
 unfold xor32
 rw [show (0x01010020:UInt32)=0x01010000 ^^^ 32 by decide,UInt32.xor_assoc,UInt32.xor_assoc,UInt32.xor_comm 32 y,←UInt32.xor_assoc 0x01010000 y 32]
theorem xor_c (x:UInt32):bits .xor .u32 (x.toNat:Int) 16842784=((xor32 x 0x01010020).toNat:Int):=by
 rw [show (16842784:Int)=(((0x01010020:UInt32).toNat:Nat):Int) from rfl,u32_xor_nat _ _ (u32_lt _) (u32_lt _),←UInt32.toNat_xor]
 rfl

theorem piece_of (t:List UInt8) (a e:Nat) (he:e=min (a+64) t.length) (ha:a<=e):(t.drop a).take (e - a)++List.replicate (64 - (e - a)) 0=Bl.piece (t.drop a):=by
 unfold Bl.piece
 by_cases h:a+64<=t.length
 ·have h1:e - a=64:=by omega
  have h2:64 - (t.drop a).length=0:=by simp;omega
  rw [h1,h2]
 ·have h1:e - a=(t.drop a).length:=by simp;omega
  rw [h1,List.take_of_length_le (Nat.le_refl _),List.take_of_length_le (by simp;omega)]
def St (t:List UInt8) (R h:List UInt32) (a:Nat):Prop :=
 ((a=0∨a<t.length)∧∃f,(t.drop a).length<f∧Bl.absorb f h (t.drop a) a=R)∨(0<a∧t.length<=a∧a<=t.length+64∧h=R)
theorem St.last {t:List UInt8} {R h:List UInt32} {a:Nat} (h0:a=0∨a<t.length) (hs:St t R h a) (hl:t.length<=a+64):St t R (Bl.press h (Bl.piece (t.drop a)) t.length true) (a+64):=by
 rcases hs with ⟨_,f,hf,ha⟩|⟨h1,h2,_,_⟩
 ·rw [absorb_last f h (t.drop a) a (by simp;omega) (by omega)] at ha
  refine .inr ⟨by omega,hl,by omega,?_⟩
  rw [←ha]
  congr 1
  simp
  omega
 ·omega
theorem St.more {t:List UInt8} {R h:List UInt32} {a:Nat} (hs:St t R h a) (hl:¬t.length<=a+64):St t R (Bl.press h (Bl.piece (t.drop a)) (a+64) false) (a+64):=by
 rcases hs with ⟨_,f,hf,ha⟩|⟨h1,h2,_,_⟩
 ·obtain ⟨f',rfl⟩:∃f',f=f'+1:=⟨f - 1,by omega⟩
  rw [absorb_more f' h (t.drop a) a (by simp;omega)] at ha
  refine .inl ⟨.inr (by omega),f',?_,?_⟩
  ·simp at hf ⊢
   omega
  ·rw [List.drop_drop] at ha
   exact ha
 ·omega
theorem St.done {t:List UInt8} {R h:List UInt32} {a:Nat} (hs:St t R h a) (h0:0<a) (hl:t.length<=a):h=R:=by
 rcases hs with ⟨h1,_⟩|⟨_,_,_,h4⟩
 ·omega
 ·exact h4

set_option maxRecDepth 100000 in
set_option maxHeartbeats 1200000 in
theorem keyed_short_ref {S S':Nat->Prop} (kv bv:Value) (key b:List UInt8) (w:World) (hk:Bs w S kv key) (hb:Bs w S' bv b) (hkl:key.length<=32) (hbl:b.length<=1000000000000) :
  Calls Tryz.prog 60 #[kv,bv] w (keyedPost w (Bl.keyed32 key b)):=by
 obtain ⟨Ak,ck,rfl,hck,hck2,hrk⟩:=hk.op
 obtain ⟨Ab,cb,rfl,hcb,hcb2,hrb⟩:=hb.op
 have HK:=Lib.hid hrk
 have HB:=Lib.hid hrb
 clear hk hb hrk hrb
 have hR:W8 (w.alloc (.cells #[.int .u8 0,.int .u8 0,.int .u8 0,.int .u8 0,.int .u8 0,.int .u8 0,.int .u8 0,.int .u8 0,.int .u8 0,.int .u8 0,.int .u8 0,.int .u8 0,.int .u8 0,.int .u8 0,.int .u8 0,.int .u8 0,.int .u8 0,.int .u8 0,.int .u8 0,.int .u8 0,.int .u8 0,.int .u8 0,.int .u8 0,.int .u8 0,.int .u8 0,.int .u8 0,.int .u8 0,.int .u8 0,.int .u8 0,.int .u8 0,.int .u8 0,.int .u8 0] 25)) w.heap.size 25 (List.replicate 32 0):=heap_alloc_new w _
 have hK0:KR w (w.alloc (.cells #[.int .u8 0,.int .u8 0,.int .u8 0,.int .u8 0,.int .u8 0,.int .u8 0,.int .u8 0,.int .u8 0,.int .u8 0,.int .u8 0,.int .u8 0,.int .u8 0,.int .u8 0,.int .u8 0,.int .u8 0,.int .u8 0,.int .u8 0,.int .u8 0,.int .u8 0,.int .u8 0,.int .u8 0,.int .u8 0,.int .u8 0,.int .u8 0,.int .u8 0,.int .u8 0,.int .u8 0,.int .u8 0,.int .u8 0,.int .u8 0,.int .u8 0,.int .u8 0] 25)):=⟨hR,(Below.refl _ _).alloc (Nat.le_refl _) _⟩
 have hd1:¬32<key.length:=by omega
 have hd2:¬(32:Int)<(key.length:Int):=by omega
 go_enter Tryz.func60,Tryz.ntmps60
 go_upto_region 1 with (fail)
 generalize w.alloc (.cells #[.int .u8 0,.int .u8 0,.int .u8 0,.int .u8 0,.int .u8 0,.int .u8 0,.int .u8 0,.int .u8 0,.int .u8 0,.int .u8 0,.int .u8 0,.int .u8 0,.int .u8 0,.int .u8 0,.int .u8 0,.int .u8 0,.int .u8 0,.int .u8 0,.int .u8 0,.int .u8 0,.int .u8 0,.int .u8 0,.int .u8 0,.int .u8 0,.int .u8 0,.int .u8 0,.int .u8 0,.int .u8 0,.int .u8 0,.int .u8 0,.int .u8 0,.int .u8 0] 25)=w0 at hK0 ⊢
 have HK0:=Lib.hid hK0
 clear hR hK0
 go_upto_if 25 with (fail)
 go_cut [6] (fun v wx=>∃tv,v=tv∧OwnB wx (w.heap.size+1) tv (padk key)∧KR w wx)
 case first =>
  by_cases hk0:key.length=0
  ·have hd0:decide (0<key.length)=false:=decide_eq_false (by omega)
   have hd3:¬0<key.length:=by omega
   have HP:Hid (padk key=[]):=by unfold Hid padk;rw [if_pos hk0]
   clear hk0
   go_wp2_with fail
   go_meet
   exact ⟨_,rfl,by rw [HP.out];exact OwnB.nil _ _,HK0.out⟩
  ·have hd0:decide (0<key.length)=true:=decide_eq_true (by omega)
   have HP:Hid (padk key=key++List.replicate (64 - key.length) 0):=by unfold Hid padk;rw [if_neg hk0]
   have hk1:0<key.length:=by omega
   clear hk0
   have hl1:([]:List UInt8).length+key.length<=1099511627776:=by simp;omega
   go_wp2_with (at_builtin;refine app_b rfl (.tmp 26) (.tmp 27) rfl (w.heap.size+1) _ [] rfl (OwnB.nil _ _) S Ak key.length ck key rfl (HK.out.below HK0.out.b (Nat.le_refl _)) hl1 HK0.out.lt ?_;intro v1 w1 ho1 hg1 _;have hk1:KR w w1:=HK0.out.grown hg1 (fun g hg=>by cases hg);simp only [List.nil_append] at ho1;have HO1:=Lib.hid ho1;have HK1:=Lib.hid hk1;clear hg1 ho1 hk1)
   go_loopw [6] (fun v wr=>∃k:Nat,k<=64 - key.length∧OwnB wr (w.heap.size+1) v (key++List.replicate k 0)∧KR w wr) (fun v _=>64 - sliceLen v)
   case atStart=>exact ⟨0,by omega,by simpa using HO1.out,HK1.out⟩
   case round =>
    clear HO1 HK1
    obtain ⟨k,hk,ho,hkr⟩:=hrel
    obtain ⟨A,c,rfl,hc1,hc2⟩:=ho.form
    have hlen:(key++List.replicate k 0).length=key.length+k:=by simp
    rw [hlen] at ho hc1
    rw [hlen]
    have HO:=Lib.hid ho
    have HKR:=Lib.hid hkr
    have hlt0:=hkr.lt
    have hl3:(key++List.replicate k 0).length+1<=1099511627776:=by rw [hlen];omega
    clear ho hkr hlen
    by_cases hlt:k<64 - key.length
    ·have hi1:((key.length+k:Nat):Int)<64:=by omega
     go_wp2_with (at_builtin;refine app_b rfl (.tmp 32) (.tmp 33) rfl (w.heap.size+1) _ (key++List.replicate k 0) rfl (HO.out.alloc _) (wr.heap.size<=·) (some ⟨wr.heap.size,0,none⟩) 1 1 [0] rfl (Rd.one 0 _) hl3 (by simp;omega) ?_;intro v2 w2 ho2 hg2 _;have hk2:KR w w2:=(HKR.out.alloc _).grown hg2 (fun g hg=>(HO.out.lt g hg).1);clear hg2)
     refine ⟨⟨k+1,by omega,?_,hk2⟩,?_⟩
     ·rw [rep_snoc,←List.append_assoc]
      exact ho2
     ·obtain ⟨A2,c2,rfl,_,_⟩:=ho2.form
      simp [sliceLen]
      omega
    ·obtain rfl:k=64 - key.length:=by omega
     have hi1:¬((key.length+(64 - key.length):Nat):Int)<64:=by omega
     have hi2:¬(key.length+(64 - key.length):Nat)<64:=by omega
     go_wp2_with fail
     go_meet
     exact ⟨_,rfl,by rw [HP.out];exact HO.out,HKR.out⟩
 case rest =>
  obtain ⟨tv,rfl,ho,hkr⟩:=hcut
  have HO:=Lib.hid ho
  have HKR:=Lib.hid hkr
  clear ho hkr
  have hpl:=padk_len key hkl
  obtain ⟨At,ct,rfl,hct,hct2⟩:=HO.out.form
  have hl4:(padk key).length+b.length<=1099511627776:=by omega
  have hx:=xor_c
  have HX:=Lib.hid hx
  clear hx
  go_upto_region 11 with (first
   | (at_builtin;refine app_b rfl (.tmp 35) (.tmp 36) rfl (w.heap.size+1) _ (padk key) rfl HO.out S' Ab b.length cb b rfl (HB.out.below HKR.out.b (Nat.le_refl _)) hl4 HKR.out.lt ?_;intro v1 w1 ho1 hg1 _;have hk1:KR w w1:=HKR.out.grown hg1 (fun g hg=>(HO.out.lt g hg).1);rw [←text_pad] at ho1;have HO1:=Lib.hid ho1;have HK1:=Lib.hid hk1;clear hg1 ho1 hk1)
   | (go_at_call 69;refine (begins_ref _).mono ?_;rintro e w2 ⟨v2,rfl,ho2,hb2⟩;obtain ⟨gh,ch,rfl,hgh1,hgh2,hr2,hch1,hch2⟩:=ho2.at_ (by decide);have HR2:=Lib.hid hr2;have HK2:=Lib.hid (HK1.out.below hb2 HK1.out.lt);have HO2:=Lib.hid (HO1.out.below hb2 (Nat.le_refl _));have HLT:=Lib.hid (fun g hg=>(HO1.out.lt g hg).2);clear hb2 ho2 hr2))
  have hlt1:=HK1.out.lt
  clear HKR HO HO1 HK1
  obtain ⟨At2,ct2,rfl,hct21,hct22⟩:=HO2.out.form
  rw [show Bl.begins.length=8 from rfl] at hch1 ⊢
  obtain ⟨x0,e0,hx0,hf0⟩:=HR2.out.get (i:=0) (by decide)
  have hxc:=HX.out x0
  obtain ⟨z,hz,hz1⟩:∃z:UInt32,Hid (UInt32.ofNat (256*key.length)=z)∧IntKind.u32.wrap (256*(key.length:Int))=(z.toNat:Int):=⟨_,rfl,by rw [IntKind.wrap_u32'];simp⟩
  have hz2:256*(key.length:Int)=(z.toNat:Int):=by rw [←hz1,IntKind.wrap_u32',Int.emod_eq_of_lt (by omega) (by omega)]
  have HTL:Hid ((Bl.text key b).length<=1000000000064):=by unfold Hid;rw [text_pad,List.length_append];omega
  go_upto_region 12 with (fail)
  have hR3:R32 (w2.setCell ⟨gh,0,none⟩ (.int .u32 ((xor32 (xor32 x0 0x01010020) z).toNat:Int))) gh (Bl.begun key.length):=by
   have h1:=HR2.out.set 0 (xor32 (xor32 x0 0x01010020) z)
   have h2:Bl.begins.set 0 (xor32 (xor32 x0 0x01010020) z)=Bl.begun key.length:=by rw [begun_ref,←hz.out,←e0.out];rfl
   rw [h2] at h1
   exact h1
  have hF3:Fr (·=gh) w2 (w2.setCell ⟨gh,0,none⟩ (.int .u32 ((xor32 (xor32 x0 0x01010020) z).toNat:Int))):=Fr.setCell (T:=(·=gh)) _ rfl
  generalize w2.setCell ⟨gh,0,none⟩ (.int .u32 ((xor32 (xor32 x0 0x01010020) z).toNat:Int))=w3 at hR3 hF3 ⊢
  have HR3:=Lib.hid hR3
  have HK3:Hid (KR w w3):=⟨HK2.out.r.keep (hF3.block _ HK2.out.r.lt (by omega)),HK2.out.b.trans (hF3.below HK2.out.b.size (fun g e=>by omega))⟩
  have HT3:Hid (Bs w3 (fun _=>True) (.slice At2 (Bl.text key b).length ct2) (Bl.text key b)):=(HO2.out.keep (fun g hg=>hF3.block g (HO2.out.lt g hg).2 (fun e=>by have:=HLT.out g hg;omega))).bs.mono (fun _ _ _=>trivial)
  have HBL:Hid ((Bl.begun key.length).length=8):=by unfold Hid;simp [Bl.begun,Bl.begins]
  have HRES:Hid (Bl.keyed32 key b=Bl.out (Bl.absorb ((Bl.text key b).length+1) (Bl.begun key.length) (Bl.text key b) 0) 32):=rfl
  generalize hRR:Bl.absorb ((Bl.text key b).length+1) (Bl.begun key.length) (Bl.text key b) 0=R at HRES
  have hrl:R.length=8:=by rw [←hRR];exact len_absorb _ _ _ _ HBL.out
  have HST:Hid (St (Bl.text key b) R (Bl.begun key.length) 0):=.inl ⟨.inl rfl,(Bl.text key b).length+1,by rw [List.drop_zero];omega,by rw [List.drop_zero];exact hRR⟩
  have HRL:=Lib.hid hrl
  generalize Bl.begun key.length=hh0 at HR3 HBL HST
  generalize hTX:Bl.text key b=T at HT3 HST HTL hct21 HO2 ⊢
  have htl:=HTL.out
  obtain ⟨_,_,hat2,hct,_,_⟩:=HT3.out
  clear hR3 hF3 hRR hrl hx0 hf0 hxc hz1 hz2 hz e0 HR2 HK2 HX HO2 hTX HLT HTL HK HB
  go_wp2_with fail
  go_loopw [7,8] (fun v7 v8 wr=>∃(g7 c7 a:Nat) (h:List UInt32),v7=.slice (some ⟨g7,0,none⟩) 8 c7∧v8=.int .i64 a∧h.length=8∧a<=T.length+64∧R32 wr g7 h∧KR w wr∧Bs wr (fun _=>True) (.slice At2 T.length ct2) T∧St T R h a) (fun _ v8 _=>T.length+65 - (intOf v8).toNat)
  case atStart=>exact ⟨gh,ch,0,_,rfl,rfl,HBL.out,by omega,HR3.out,HK3.out,HT3.out,HST.out⟩
  case round =>
   clear HBL HR3 HK3 HT3 HST
   obtain ⟨g7,c7,a,h,rfl,rfl,hh,hal,hr7,hkr,hbs,hst⟩:=hrel
   obtain ⟨wo,rfl⟩:∃wo:World,wo=wr:=⟨_,rfl⟩
   have HH:=Lib.hid hh
   have HR7:=Lib.hid hr7
   have HKR:=Lib.hid hkr
   have HT:=Lib.hid hbs
   have HST:=Lib.hid hst
   have hlt0:=hkr.lt
   clear hh hr7 hkr hbs hst
   by_cases hnd:a=0∨a<T.length
   ·go_upto_region 13 with (fail)
    go_cut [57] (fun v wx=>v=.bool true∧wx=wo)
    case first =>
     by_cases hlt:a<T.length
     ·have h1:decide (a<T.length)=true:=decide_eq_true hlt
      have h2:(a:Int)<(T.length:Int):=by omega
      go_wp2_with fail
      go_meet
      exact ⟨rfl,rfl⟩
     ·obtain rfl:a=0:=by omega
      have h1:decide (0<T.length)=false:=decide_eq_false hlt
      have h2:¬0<T.length:=hlt
      go_wp2_with fail
      go_meet
      exact ⟨rfl,rfl⟩
    case rest =>
     obtain ⟨rfl,rfl⟩:=hcut
     obtain ⟨wo,rfl⟩:∃w,w=wc:=⟨_,rfl⟩
     obtain ⟨e,he1,he2,he3,he4⟩:∃e:Nat,e=min (a+64) T.length∧a<=e∧e<=T.length∧e<=a+64:=⟨_,rfl,by omega,by omega,by omega⟩
     go_upto_region 15 with (fail)
     go_cut [9] (fun v wx=>v=.int .i64 e∧wx=wo)
     case first =>
      by_cases hl:(a:Int)+64<(T.length:Int)
      ·go_wp2_with fail
       all_goals
        go_meet
        exact ⟨by go_num,rfl⟩
      ·go_wp2_with fail
       all_goals
        go_meet
        exact ⟨by go_num,rfl⟩
     case rest =>
      obtain ⟨rfl,rfl⟩:=hcut
      obtain ⟨wo,rfl⟩:∃w,w=wc:=⟨_,rfl⟩
      have HE:=Lib.hid he1
      clear he1
      have hrd:∀A',(0<e - a->A'=Option.map (fun x=>x.add a) At2)->Rd wo (fun _=>True) 1 A' (e - a) (((T.drop a).take (e - a)).map u8v):=fun A' hA=>by
       obtain ⟨A,c,ee,_,_,hr⟩:=HT.out
       cases ee
       exact hr.cutv (a:=a) (m:=e - a) (by omega) hA
      have HRD:=Lib.hid hrd
      have hl1:([]:List UInt8).length+(e - a)<=1099511627776:=by simp;omega
      have hea:(a:Int)<=(e:Int):=by omega
      have hec:(e:Int)<=(ct2:Int):=by omega
      clear hrd
      go_upto_region 17 with (fail)
      go_cut [10] (fun v wx=>∃bv,v=bv∧OwnB wx wo.heap.size bv ((T.drop a).take (e - a))∧Below wo.heap.size wo wx)
      case first =>
       by_cases hca:ct2=a
       ·have h0:¬0<e - a:=by omega
        subst hca
        go_wp2_with (at_builtin;go_must (refine app_b rfl (.tmp 65) (.tmp 69) rfl wo.heap.size _ [] rfl (OwnB.nil _ _) (fun _=>True) _ _ _ ((T.drop ct2).take (e - ct2)) rfl (HRD.out _ (fun h=>absurd h h0)) hl1 (Nat.le_refl _) ?_);intro v1 w1 ho1 hg1 _;simp only [List.nil_append] at ho1)
        go_meet
        exact ⟨_,rfl,ho1,(Below.refl _ _).grown hg1 (Nat.le_refl _) (fun g hg=>by cases hg)⟩
       ·go_wp2_with (at_builtin;go_must (refine app_b rfl (.tmp 65) (.tmp 69) rfl wo.heap.size _ [] rfl (OwnB.nil _ _) (fun _=>True) _ _ _ ((T.drop a).take (e - a)) rfl (HRD.out _ (fun _=>rfl)) hl1 (Nat.le_refl _) ?_);intro v1 w1 ho1 hg1 _;simp only [List.nil_append] at ho1)
        go_meet
        exact ⟨_,rfl,ho1,(Below.refl _ _).grown hg1 (Nat.le_refl _) (fun g hg=>by cases hg)⟩
      case rest =>
       obtain ⟨bv,rfl,ho1,hb1⟩:=hcut
       have HO1:=Lib.hid ho1
       have HB1:=Lib.hid hb1
       have HPL:Hid (((T.drop a).take (e - a)).length=e - a):=by unfold Hid;simp;omega
       have HPC:=Lib.hid (piece_of T a e HE.out he2)
       generalize (T.drop a).take (e - a)=p at HO1 HPL HPC
       clear ho1 hb1 HRD
       go_wp2_with fail
       go_loopw [10] (fun v wr=>∃k:Nat,k<=64 - (e - a)∧OwnB wr wo.heap.size v (p++List.replicate k 0)∧Below wo.heap.size wo wr) (fun v _=>64 - sliceLen v)
       case atStart=>exact ⟨0,by omega,by simpa using HO1.out,HB1.out⟩
       case round =>
        clear HO1 HB1
        obtain ⟨k,hk,ho,hbz⟩:=hrel
        obtain ⟨A,c,rfl,hc1,hc2⟩:=ho.form
        have hlen:(p++List.replicate k 0).length=(e - a)+k:=by rw [List.length_append,HPL.out,List.length_replicate]
        rw [hlen] at ho hc1
        rw [hlen]
        have HO:=Lib.hid ho
        have HBZ:=Lib.hid hbz
        have hsz:=hbz.size
        have hl3:(p++List.replicate k 0).length+1<=1099511627776:=by rw [hlen];omega
        clear ho hbz
        by_cases hlt:k<64 - (e - a)
        ·have hi1:(((e - a)+k:Nat):Int)<64:=by omega
         have hi2:(e - a)+k<64:=by omega
         clear hlen
         go_wp2_with (at_builtin;go_must (refine app_b rfl (.tmp 74) (.tmp 75) rfl wo.heap.size _ (p++List.replicate k 0) rfl (HO.out.alloc _) (wr.heap.size<=·) (some ⟨wr.heap.size,0,none⟩) 1 1 [0] rfl (Rd.one 0 _) hl3 (by simp;omega) ?_);intro v2 w2 ho2 hg2 _;have hb2:Below wo.heap.size wo w2:=(HBZ.out.alloc hsz _).grown hg2 (by simp;omega) (fun g hg=>(HO.out.lt g hg).1);clear hg2)
         refine ⟨⟨k+1,by omega,?_,hb2⟩,?_⟩
         ·rw [rep_snoc,←List.append_assoc]
          exact ho2
         ·obtain ⟨A2,c2,rfl,_,_⟩:=ho2.form
          simp [sliceLen,HPL.out]
          omega
        ·obtain rfl:k=64 - (e - a):=by omega
         have h64:(e - a)+(64 - (e - a))=64:=by omega
         rw [h64] at HO hc1 ⊢
         rw [HPC.out] at HO
         have HR8:=Lib.hid (HR7.out.keep (HBZ.out.block g7 HR7.out.lt))
         have HBP:Hid (Bs wr (wo.heap.size<=·) (.slice A 64 c) (Bl.piece (T.drop a))):=HO.out.bs
         clear HO HPC HPL hlen hl3 h64
         have hcnt:IntKind.u64.wrap (e:Int)=(e:Int):=by rw [IntKind.wrap_u64];omega
         by_cases hlast:e=T.length
         ·have hle:T.length<=a+64:=by have:=HE.out;omega
          clear HE
          subst hlast
          have hq:((T.length:Int) == (T.length:Int))=true:=by simp
          go_wp2_with fail
          refine (press_ref (S:=fun _=>True) _ _ h _ (Bl.piece (T.drop a)) T.length true _ HH.out (len_piece _) (by omega) (HR8.out.rd trivial HH.out) HBP.out).mono ?_
          rintro e3 w3 ⟨v3,rfl,ho3,hb3⟩
          obtain ⟨g8,c8,rfl,_,_,hr8,_,_⟩:=ho3.at_ (by rw [len_press];omega)
          rw [len_press]
          have HR9:=Lib.hid hr8
          have HB3:=Lib.hid (HBZ.out.trans (hb3.mono HBZ.out.size))
          clear ho3 hb3 hr8
          go_wp2_with fail
          go_roundw
          case rel=>exact ⟨g8,c8,a+64,Bl.press h (Bl.piece (T.drop a)) T.length true,rfl,by go_num,len_press _ _ _ _,by omega,HR9.out,HKR.out.below HB3.out (by omega),HT.out.below HB3.out (Nat.le_refl _),HST.out.last hnd (by omega)⟩
          case measure=>simp [intOf];omega
         ·have hq:((e:Int) == (T.length:Int))=false:=by rw [beq_eq_false_iff_ne];omega
          have hq2:(e == T.length)=false:=by rw [beq_eq_false_iff_ne];omega
          have HEQ:Hid (e=a+64):=by have:=HE.out;unfold Hid;omega
          clear HE
          go_wp2_with fail
          refine (press_ref (S:=fun _=>True) _ _ h _ (Bl.piece (T.drop a)) e false _ HH.out (len_piece _) (by omega) (HR8.out.rd trivial HH.out) HBP.out).mono ?_
          rintro e3 w3 ⟨v3,rfl,ho3,hb3⟩
          obtain ⟨g8,c8,rfl,_,_,hr8,_,_⟩:=ho3.at_ (by rw [len_press];omega)
          rw [len_press]
          have HR9:=Lib.hid hr8
          have HB3:=Lib.hid (HBZ.out.trans (hb3.mono HBZ.out.size))
          clear ho3 hb3 hr8
          go_wp2_with fail
          go_roundw
          case rel =>
           have hEq:=HEQ.out
           refine ⟨g8,c8,a+64,Bl.press h (Bl.piece (T.drop a)) (a+64) false,rfl,by go_num,len_press _ _ _ _,by omega,?_,HKR.out.below HB3.out (by omega),HT.out.below HB3.out (Nat.le_refl _),HST.out.more (by omega)⟩
           rw [←hEq]
           exact HR9.out
          case measure=>simp [intOf];omega
   ·have h1:decide (a<T.length)=false:=decide_eq_false (by omega)
    have h2:¬a<T.length:=by omega
    have h3:((a:Int) == 0)=false:=by rw [beq_eq_false_iff_ne];omega
    have hR:=HST.out.done (by omega) (by omega)
    subst hR
    have hg7:=HR7.out.lt
    have hP:W8 (wo.alloc (.cells #[.int .u8 0,.int .u8 0,.int .u8 0,.int .u8 0,.int .u8 0,.int .u8 0,.int .u8 0,.int .u8 0,.int .u8 0,.int .u8 0,.int .u8 0,.int .u8 0,.int .u8 0,.int .u8 0,.int .u8 0,.int .u8 0,.int .u8 0,.int .u8 0,.int .u8 0,.int .u8 0,.int .u8 0,.int .u8 0,.int .u8 0,.int .u8 0,.int .u8 0,.int .u8 0,.int .u8 0,.int .u8 0,.int .u8 0,.int .u8 0,.int .u8 0,.int .u8 0] 25)) wo.heap.size 25 (outk h 0):=heap_alloc_new wo _
    have hK:KR w (wo.alloc (.cells #[.int .u8 0,.int .u8 0,.int .u8 0,.int .u8 0,.int .u8 0,.int .u8 0,.int .u8 0,.int .u8 0,.int .u8 0,.int .u8 0,.int .u8 0,.int .u8 0,.int .u8 0,.int .u8 0,.int .u8 0,.int .u8 0,.int .u8 0,.int .u8 0,.int .u8 0,.int .u8 0,.int .u8 0,.int .u8 0,.int .u8 0,.int .u8 0,.int .u8 0,.int .u8 0,.int .u8 0,.int .u8 0,.int .u8 0,.int .u8 0,.int .u8 0,.int .u8 0] 25)):=HKR.out.alloc _
    have hR1:R32 (wo.alloc (.cells #[.int .u8 0,.int .u8 0,.int .u8 0,.int .u8 0,.int .u8 0,.int .u8 0,.int .u8 0,.int .u8 0,.int .u8 0,.int .u8 0,.int .u8 0,.int .u8 0,.int .u8 0,.int .u8 0,.int .u8 0,.int .u8 0,.int .u8 0,.int .u8 0,.int .u8 0,.int .u8 0,.int .u8 0,.int .u8 0,.int .u8 0,.int .u8 0,.int .u8 0,.int .u8 0,.int .u8 0,.int .u8 0,.int .u8 0,.int .u8 0,.int .u8 0,.int .u8 0] 25)) g7 h:=HR7.out.keep (heap_alloc_old _ _ hg7)
    have HP:=Lib.hid hP
    have HK:=Lib.hid hK
    have HR1:=Lib.hid hR1
    clear hP hK hR1 HKR HR7 HT HST
    go_wp2_with fail
    go_loopw [12] (fun i wr=>∃k:Nat,k<=32∧i=.int .i64 k∧KR w wr∧R32 wr g7 h∧W8 wr wo.heap.size 25 (outk h k)) (fun i _=>32 - (intOf i).toNat)
    case atStart=>exact ⟨0,by omega,rfl,HK.out,HR1.out,HP.out⟩
    case round =>
     clear HP HK HR1
     obtain ⟨k,hk,rfl,hkr,hr7,hp⟩:=hrel
     have HKR:=Lib.hid hkr
     have HR7:=Lib.hid hr7
     have HP:=Lib.hid hp
     clear hkr hr7 hp
     obtain ⟨wi,rfl⟩:∃wi:World,wi=wr:=⟨_,rfl⟩
     by_cases hlt:k<32
     ·have hi1:(k:Int)<32:=by omega
      obtain ⟨x,ex,hx,_⟩:=HR7.out.get (i:=k / 4) (by rw [HH.out];omega)
      have hxl:=u32_lt x
      have hcell:=HP.out.cell (i:=k) (by rw [outk_len _ _ hk];exact hlt)
      have hfro:=HP.out.frozen k
      have hi2:(k:Int) / 4<8:=by omega
      have hi3:(0:Int)<=(k:Int) / 4:=by omega
      have hi4:((k:Int) / 4).toNat=k / 4:=by omega
      go_wp2_with fail
      go_loop [13,14] (fun v j=>∃m y:Nat,m<=k % 4∧j=.int .i64 m∧v=.int .u32 (y:Int)∧y=x.toNat / 256 ^ m) (fun _ j=>k % 4 - (intOf j).toNat)
      case atStart=>exact ⟨0,x.toNat,by omega,rfl,rfl,by simp⟩
      case round =>
       obtain ⟨m,y,hm,rfl,rfl,hy⟩:=hrel
       have HY:=Lib.hid hy
       have hyl:y<4294967296:=by rw [hy];exact Nat.lt_of_le_of_lt (Nat.div_le_self _ _) hxl
       clear hy
       by_cases hmt:m<k % 4
       ·have hj1:(m:Int)<(k:Int) % 4:=by omega
        have hj2:(m:Int)<4:=by omega
        go_wp2_with fail
        go_round
        case rel=>exact ⟨m+1,y / 256,by omega,by go_num,by go_num,by rw [HY.out,Nat.div_div_eq_div_mul,Nat.pow_succ]⟩
        case measure=>simp [intOf];omega
       ·obtain rfl:m=k % 4:=by omega
        have hj1:¬((k % 4:Nat):Int)<(k:Int) % 4:=by omega
        have e:((y:Int) % 256:Int)=((UInt8.ofNat (x.toNat / 2 ^ (8*(k % 4)))).toNat:Int):=by
         rw [HY.out,show (256:Nat)=2 ^ 8 from rfl,←Nat.pow_mul]
         exact u8_of (by simp)
        have HEV:=Lib.hid e
        clear e
        go_wp2_with fail
        rw [HEV.out]
        have hpl:wo.heap.size<wi.heap.size:=HP.out.lt
        have HZ:Hid (g7≠wo.heap.size):=by unfold Hid;omega
        refine ⟨⟨k+1,by omega,by go_num,?_,?_,?_⟩,by simp [intOf];omega⟩
        ·exact ⟨HKR.out.r.far (p:=⟨wo.heap.size,k,none⟩) (by have:=hlt0;show w.heap.size≠wo.heap.size;omega) _,HKR.out.b.setCell (by have:=hlt0;simp;omega) _⟩
        ·exact HR7.out.keep (Below.heap_setCell wi ⟨wo.heap.size,k,none⟩ _ g7 HZ.out)
        ·rw [←outk_set _ _ hlt,ex.out]
         exact HP.out.set k _
     ·obtain rfl:k=32:=by omega
      rw [show ((32:Nat):Int)=32 from rfl]
      have ho:outk h 32=Bl.keyed32 key b:=by rw [HRES.out];simp [outk]
      have hol:=outk_len h 32 (by omega)
      have hp:=HP.out
      rw [ho] at hp hol
      generalize hres:Bl.keyed32 key b=out at hp hol
      have HRS:=Lib.hid hres
      have HP2:=Lib.hid hp
      have HOL:=Lib.hid hol
      clear ho hol hp hres HP HRES
      go_upto_region 31 with (fail)
      refine wp_region_lit ?_
      refine wpList_load_row rfl _ (.tmp 11) rfl wo.heap.size rfl _ _ (0,0) _ HP2.out Tryz.underlying25 rfl (info_hash_of HOL.out) ?_
      refine wpList_store_row rfl _ (.tmp 4) (.tmp 108) rfl w.heap.size (out.map u8v).toArray rfl rfl _ _ HKR.out.r (info_hash_of HOL.out) (by simp [HOL.out]) (all_u8 out) ?_
      go_frame
      go_wp2_with fail
      refine bodyPost_ret (results_cell_row (by rfl) _ _ w.heap.size _ (out.map u8v).toArray (0,0) _ (by rfl) (setRow_heap _ _ _ _ _ _ HKR.out.r) Tryz.underlying25 rfl (info_hash_of HOL.out)) rfl ?_
      exact ⟨by rw [HRS.out],below_setRow HKR.out.b (Nat.le_refl _) _⟩

theorem keyed_nil_ref {S:Nat->Prop} (bv:Value) (b:List UInt8) (w:World) (hb:Bs w S bv b) (hbl:b.length<=1000000000000) :
  Calls Tryz.prog 60 #[.slice none 0 0,bv] w (keyedPost w (Bl.sum b)) :=
 keyed_short_ref (S:=fun _=>True) _ bv [] b w Bs.nil hb (by simp) hbl

end Go.Proofs.YtjjodibkmeefpaaGreatDoor.Old
