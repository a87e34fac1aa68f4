import Derived.Test.YtjjodibkmeefpaaGreatDoorMOX
import Derived.Deep.RegionHeld3
import Derived.Deep.DrawnRows
import Derived.Test.YtjjodibkmeefpaaGreatDoorMO
set_option linter.unusedVariables false
set_option linter.unusedSimpArgs false

namespace Go.Proofs.YtjjodibkmeefpaaGreatDoor.Old
open Go Go.RowKit
attribute [local go_sem ↓] Go.wp_at_zero Go.wp_at_succ

set_option maxHeartbeats 1000000 in
theorem sum_ref {S:Nat->Prop} (bv:Value) (b:List UInt8) (w:World) (hb:Bs w S bv b) (hbl:b.length<=1000000000000) :
  Calls Tryz.prog 46 #[bv] w (keyedPost w (Bl.sum b)):=by
 have hR:W8 (w.alloc (.cells #[.int .u8 0,.int .u8 0,.int .u8 0,.int .u8 0,.int .u8 0,.int .u8 0,.int .u8 0,.int .u8 0,.int .u8 0,.int .u8 0,.int .u8 0,.int .u8 0,.int .u8 0,.int .u8 0,.int .u8 0,.int .u8 0,.int .u8 0,.int .u8 0,.int .u8 0,.int .u8 0,.int .u8 0,.int .u8 0,.int .u8 0,.int .u8 0,.int .u8 0,.int .u8 0,.int .u8 0,.int .u8 0,.int .u8 0,.int .u8 0,.int .u8 0,.int .u8 0] 25)) w.heap.size 25 (List.replicate 32 0):=heap_alloc_new w _
 have hB:Below w.heap.size w (w.alloc (.cells #[.int .u8 0,.int .u8 0,.int .u8 0,.int .u8 0,.int .u8 0,.int .u8 0,.int .u8 0,.int .u8 0,.int .u8 0,.int .u8 0,.int .u8 0,.int .u8 0,.int .u8 0,.int .u8 0,.int .u8 0,.int .u8 0,.int .u8 0,.int .u8 0,.int .u8 0,.int .u8 0,.int .u8 0,.int .u8 0,.int .u8 0,.int .u8 0,.int .u8 0,.int .u8 0,.int .u8 0,.int .u8 0,.int .u8 0,.int .u8 0,.int .u8 0,.int .u8 0] 25)):=(Below.refl _ _).alloc (Nat.le_refl _) _
 have HR:=Lib.hid hR
 have HB:=Lib.hid hB
 have HS:=Lib.hid hb
 have HL:=Lib.hid (Bl.len_sum b)
 clear hR hB hb
 go_enter Tryz.func46,Tryz.ntmps46
 go_wp2_with (first
  | (go_at_call 60;refine (keyed_nil_ref bv b _ (HS.out.below HB.out (Nat.le_refl _)) hbl).mono ?_;rintro e w1 ⟨rfl,hb1⟩;have HB1:=Lib.hid hb1;clear hb1)
  | (refine wpList_store_row rfl _ (.tmp 2) (.tmp 4) rfl w.heap.size ((Bl.sum b).map u8v).toArray rfl rfl _ _ (HR.out.keep (HB1.out.block _ HR.out.lt)) (info_hash_of HL.out) (by simp [HL.out]) (all_u8 _) ?_))
 refine bodyPost_ret (results_cell_row (by rfl) _ _ w.heap.size _ ((Bl.sum b).map u8v).toArray (0,0) _ (by rfl) (setRow_heap _ _ _ _ _ _ (HR.out.keep (HB1.out.block _ HR.out.lt))) Tryz.underlying25 rfl (info_hash_of HL.out)) rfl ?_
 exact ⟨rfl,below_setRow (HB.out.trans (HB1.out.mono HB.out.size)) (Nat.le_refl _) _⟩

set_option maxRecDepth 100000 in
set_option maxHeartbeats 1000000 in
theorem tagged_ref {S:Nat->Prop} (s:ByteArray) (bv:Value) (b:List UInt8) (w:World) (hb:Bs w S bv b) (hs:s.size<=1000000000) (hbl:b.length<=1000000000) :
  Calls Tryz.prog 67 #[.string s,bv] w (keyedPost w (Bl.tagged s.data.toList b)):=by
 have hR:W8 (w.alloc (.cells #[.int .u8 0,.int .u8 0,.int .u8 0,.int .u8 0,.int .u8 0,.int .u8 0,.int .u8 0,.int .u8 0,.int .u8 0,.int .u8 0,.int .u8 0,.int .u8 0,.int .u8 0,.int .u8 0,.int .u8 0,.int .u8 0,.int .u8 0,.int .u8 0,.int .u8 0,.int .u8 0,.int .u8 0,.int .u8 0,.int .u8 0,.int .u8 0,.int .u8 0,.int .u8 0,.int .u8 0,.int .u8 0,.int .u8 0,.int .u8 0,.int .u8 0,.int .u8 0] 25)) w.heap.size 25 (List.replicate 32 0):=heap_alloc_new w _
 have hK0:KR w (w.alloc (.cells #[.int .u8 0,.int .u8 0,.int .u8 0,.int .u8 0,.int .u8 0,.int .u8 0,.int .u8 0,.int .u8 0,.int .u8 0,.int .u8 0,.int .u8 0,.int .u8 0,.int .u8 0,.int .u8 0,.int .u8 0,.int .u8 0,.int .u8 0,.int .u8 0,.int .u8 0,.int .u8 0,.int .u8 0,.int .u8 0,.int .u8 0,.int .u8 0,.int .u8 0,.int .u8 0,.int .u8 0,.int .u8 0,.int .u8 0,.int .u8 0,.int .u8 0,.int .u8 0] 25)):=⟨hR,(Below.refl _ _).alloc (Nat.le_refl _) _⟩
 obtain ⟨Ab,cb,rfl,hcb,hcb2,hrb⟩:=hb.op
 have hsl:s.data.toList.length<=1000000000000:=by simp;omega
 have HS:=Lib.hid hrb
 have HL:=Lib.hid (Bl.len_sum s.data.toList)
 have HT:=Lib.hid (Bl.len_tagged s.data.toList b)
 have kc:=fun (W:World)=>Lib.run_convert_string_bytes (P:=Tryz.prog) W 9 23 5 s Tryz.underlying9 Tryz.underlying23 Tryz.underlying5
 go_enter Tryz.func67,Tryz.ntmps67
 go_upto_region 1 with (fail)
 generalize w.alloc (.cells #[.int .u8 0,.int .u8 0,.int .u8 0,.int .u8 0,.int .u8 0,.int .u8 0,.int .u8 0,.int .u8 0,.int .u8 0,.int .u8 0,.int .u8 0,.int .u8 0,.int .u8 0,.int .u8 0,.int .u8 0,.int .u8 0,.int .u8 0,.int .u8 0,.int .u8 0,.int .u8 0,.int .u8 0,.int .u8 0,.int .u8 0,.int .u8 0,.int .u8 0,.int .u8 0,.int .u8 0,.int .u8 0,.int .u8 0,.int .u8 0,.int .u8 0,.int .u8 0] 25)=w0 at hK0 ⊢
 have HC:=Lib.hid (bytes_bs w0 s (by omega))
 have HKC:=Lib.hid (hK0.below (bytes_below w0 s) hK0.lt)
 clear hR hb hrb hK0
 go_upto_region 2 with (first
  | (go_at_call 46;refine (sum_ref _ s.data.toList _ HC.out hsl).mono ?_;rintro e w1 ⟨rfl,hb1⟩;have HK1:=Lib.hid (HKC.out.below hb1 HKC.out.lt);clear hb1 HC HKC)
  | (refine wpList_store_row rfl _ (.tmp 5) (.tmp 9) rfl w1.heap.size ((Bl.sum s.data.toList).map u8v).toArray rfl rfl _ _ (heap_alloc_new w1 _) (info_hash_of HL.out) (by simp [HL.out]) (all_u8 _) ?_))
 have hw2:W8 ((w1.alloc (.cells #[.int .u8 0,.int .u8 0,.int .u8 0,.int .u8 0,.int .u8 0,.int .u8 0,.int .u8 0,.int .u8 0,.int .u8 0,.int .u8 0,.int .u8 0,.int .u8 0,.int .u8 0,.int .u8 0,.int .u8 0,.int .u8 0,.int .u8 0,.int .u8 0,.int .u8 0,.int .u8 0,.int .u8 0,.int .u8 0,.int .u8 0,.int .u8 0,.int .u8 0,.int .u8 0,.int .u8 0,.int .u8 0,.int .u8 0,.int .u8 0,.int .u8 0,.int .u8 0] 25)).setRow w1.heap.size ((Bl.sum s.data.toList).map u8v).toArray) w1.heap.size 25 (Bl.sum s.data.toList):=setRow_heap _ _ _ _ _ _ (heap_alloc_new w1 _)
 have hb2:Below w1.heap.size w1 ((w1.alloc (.cells #[.int .u8 0,.int .u8 0,.int .u8 0,.int .u8 0,.int .u8 0,.int .u8 0,.int .u8 0,.int .u8 0,.int .u8 0,.int .u8 0,.int .u8 0,.int .u8 0,.int .u8 0,.int .u8 0,.int .u8 0,.int .u8 0,.int .u8 0,.int .u8 0,.int .u8 0,.int .u8 0,.int .u8 0,.int .u8 0,.int .u8 0,.int .u8 0,.int .u8 0,.int .u8 0,.int .u8 0,.int .u8 0,.int .u8 0,.int .u8 0,.int .u8 0,.int .u8 0] 25)).setRow w1.heap.size ((Bl.sum s.data.toList).map u8v).toArray):=below_setRow ((Below.refl _ _).alloc (Nat.le_refl _) _) (Nat.le_refl _) _
 generalize (w1.alloc (.cells #[.int .u8 0,.int .u8 0,.int .u8 0,.int .u8 0,.int .u8 0,.int .u8 0,.int .u8 0,.int .u8 0,.int .u8 0,.int .u8 0,.int .u8 0,.int .u8 0,.int .u8 0,.int .u8 0,.int .u8 0,.int .u8 0,.int .u8 0,.int .u8 0,.int .u8 0,.int .u8 0,.int .u8 0,.int .u8 0,.int .u8 0,.int .u8 0,.int .u8 0,.int .u8 0,.int .u8 0,.int .u8 0,.int .u8 0,.int .u8 0,.int .u8 0,.int .u8 0] 25)).setRow w1.heap.size ((Bl.sum s.data.toList).map u8v).toArray=w2 at hw2 hb2 ⊢
 generalize w1.heap.size=g at hw2 ⊢
 have HK2:=Lib.hid (HK1.out.below hb2 HK1.out.lt)
 have HW2:=Lib.hid hw2
 clear hw2 hb2 HK1
 have hl1:([]:List UInt8).length+32<=1099511627776:=by decide
 have hl2:(Bl.sum s.data.toList).length+b.length<=1099511627776:=by rw [HL.out];omega
 go_wp2_with (first
  | (at_builtin;refine app_b rfl (.tmp 10) (.tmp 11) rfl (w.heap.size+1) _ [] rfl (OwnB.nil _ _) (fun _=>True) (some ⟨g,0,none⟩) 32 32 (Bl.sum s.data.toList) rfl (HW2.out.rd HL.out) hl1 HK2.out.lt ?_;intro v3 w3 ho3 hg3 _;simp only [List.nil_append] at ho3;have HO3:=Lib.hid ho3;have HK3:=Lib.hid (HK2.out.grown hg3 (fun k hk=>by cases hk));clear ho3 hg3)
  | (at_builtin;refine app_b rfl (.tmp 13) (.tmp 14) rfl (w.heap.size+1) _ (Bl.sum s.data.toList) rfl HO3.out S Ab b.length cb b rfl (HS.out.below HK3.out.b (Nat.le_refl _)) hl2 HK3.out.lt ?_;intro v4 w4 ho4 hg4 _;have HO4:=Lib.hid ho4.bs;have HK4:=Lib.hid (HK3.out.grown hg4 (fun k hk=>(HO3.out.lt k hk).1));clear ho4 hg4)
  | (go_at_call 46;refine (sum_ref _ (Bl.sum s.data.toList++b) _ HO4.out (by rw [List.length_append,HL.out];omega)).mono ?_;rintro e w5 ⟨rfl,hb5⟩;have HK5:=Lib.hid (HK4.out.below hb5 HK4.out.lt);clear hb5;rw [show Bl.sum (Bl.sum s.data.toList++b)=Bl.tagged s.data.toList b from rfl])
  | (refine wpList_store_row rfl _ (.tmp 4) (.tmp 16) rfl w.heap.size ((Bl.tagged s.data.toList b).map u8v).toArray rfl rfl _ _ HK5.out.r (info_hash_of HT.out) (by simp [HT.out]) (all_u8 _) ?_))
 refine bodyPost_ret (results_cell_row (by rfl) _ _ w.heap.size _ ((Bl.tagged s.data.toList b).map u8v).toArray (0,0) _ (by rfl) (setRow_heap _ _ _ _ _ _ HK5.out.r) Tryz.underlying25 rfl (info_hash_of HT.out)) rfl ?_
 exact ⟨rfl,below_setRow HK5.out.b (Nat.le_refl _) _⟩
end Go.Proofs.YtjjodibkmeefpaaGreatDoor.Old
