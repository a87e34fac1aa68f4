import Derived.Test.YtjjodibkmeefpaaGreatDoorMWJ
import Derived.Test.YtjjodibkmeefpaaGreatDoorMV
set_option linter.unusedVariables false
set_option linter.unusedSimpArgs false
set_option maxHeartbeats 4000000

namespace Go.Proofs.YtjjodibkmeefpaaGreatDoor
open Go Go.RowKit
attribute [local irreducible] wpList

theorem rd_cut9 {W:World} {S:Nat->Prop} {g o n s i m a0:Nat} {xs:List Value} (h:Rd W S s (some ⟨g,o,none⟩) n xs) (hi:i+m<=n) (ha:a0=o+i*s):Rd W S s (some ⟨g,a0,none⟩) m (sub xs (i*s) (m*s)):=by
 subst ha
 refine ⟨?_,fun hm=>?_⟩
 ·unfold sub
  rw [List.length_take,List.length_drop,h.1]
  have:(i+m)*s<=n*s:=Nat.mul_le_mul_right s hi
  rw [Nat.add_mul] at this
  omega
 ·obtain ⟨g',o',e,h1,h2⟩:=h.2 (by omega)
  cases e
  refine ⟨g,o+i*s,U,h1,fun j u hu=>?_⟩
  unfold sub at hu
  rw [List.getElem?_take] at hu
  split at hu
  ·rw [List.getElem?_drop] at hu
   have:=h2 (i*s+j) u hu
   rwa [←Nat.add_assoc] at this
  ·cases hu
theorem spl_mid9 {a b c x:List Value} {k:Nat} (ha:a.length=k) (hx:x.length=b.length):spl (a++(b++c)) k x=a++(x++c):=by
 subst ha
 rw [spl_len _ _ _ (by simp only [List.length_append];omega),List.take_left]
 have h1:(a++(b++c)).drop (a.length+x.length)=c:=by rw [hx];simp [List.drop_append]
 rw [h1,List.append_assoc]
theorem spl_end9 {a b x:List Value} {k:Nat} (ha:a.length=k) (hx:x.length=b.length):spl (a++b) k x=a++x:=by
 have:=spl_mid9 (a:=a) (b:=b) (c:=[]) (x:=x) ha hx
 simpa using this

theorem rl_cut {α:Type} {R:Rep α} {s:Nat} {W:World} {S:Nat->Prop} {g o n c i m a0 c':Nat} {l:List α} (h:RL s R W S [.slice (some ⟨g,o,none⟩) n c] l) (hi:i+m<=n) (hc:m<=c'∧c'<=9223372036854775807) (ha:a0=o+i*s):RL s R W S [.slice (some ⟨g,a0,none⟩) m c'] ((l.drop i).take m):=by
 have hn:=rl_len h
 obtain ⟨A_,c_,xs,hv_,-,-,hr,hel⟩:=h
 injection hv_ with hv_ _
 injection hv_ with h1 h2 h3
 subst h1 h2 h3
 have hm:((l.drop i).take m).length=m:=by rw [List.length_take,List.length_drop];omega
 refine ⟨some ⟨g,a0,none⟩,c',sub xs (i*s) (m*s),by rw [hm],by rw [hm];exact hc.1,hc.2,by rw [hm];exact rd_cut9 hr hi ha,fun j x hx=>?_⟩
 have hj:j<m:=by rw [←hm];exact (List.getElem?_eq_some_iff.1 hx).1
 rw [List.getElem?_take,if_pos hj,List.getElem?_drop] at hx
 have hb:j*s+s<=m*s:=by rw [←Nat.succ_mul];exact Nat.mul_le_mul_right s hj
 rw [sub_sub hb,←Nat.add_mul]
 exact hel (i+j) x hx
section
variable {A:Option Addr} {m c:Nat} {pt pu:DPoint} {h id z:List UInt8}
theorem spl_q_p (hp:pt.tx.length=32) (hu:pu.tx.length=32):spl (qC A m c pt h id) 1 (pointC pu)=qC A m c pu h id:=spl_mid9 rfl ((len_point hu).trans (len_point hp).symm)
theorem spl_q_h (hp:pt.tx.length=32) (hh:h.length=32) (hz:z.length=32):spl (qC A m c pt h id) 34 (z.map u8v)=qC A m c pt z id:=by
 have e:∀w:List UInt8,qC A m c pt w id=([.slice A m c]++pointC pt)++(w.map u8v++id.map u8v):=fun w=>by unfold qC;simp
 rw [e,e]
 exact spl_mid9 (by rw [List.length_append,len_point hp];rfl) (by rw [List.length_map,List.length_map,hh,hz])
theorem spl_q_i (hp:pt.tx.length=32) (hh:h.length=32) (hi:id.length=32) (hz:z.length=32):spl (qC A m c pt h id) 66 (z.map u8v)=qC A m c pt h z:=by
 have e:∀w:List UInt8,qC A m c pt h w=(([.slice A m c]++pointC pt)++h.map u8v)++w.map u8v:=fun w=>by unfold qC;simp
 rw [e,e]
 exact spl_end9 (by rw [List.length_append,List.length_append,len_point hp,List.length_map,hh];rfl) (by rw [List.length_map,List.length_map,hi,hz])
end
theorem scr_bs {k g0 g1 g2 g3:Nat} {W:World} (h:Fx true true true true g0 g1 g2 g3 W) (hk:k<4):Bs W (fun _=>True) (.slice (scrA k g0 g1 g2) (scrL k).length (scrN k)) (scrL k):=by
 match k,hk with
 | 0,_=>exact Wt.blk_bs (h.1 rfl) rfl trivial rfl (by decide)
 | 1,_=>exact Bs.nil
 | 2,_=>exact Wt.blk_bs (h.2.1 rfl) rfl trivial rfl (by decide)
 | 3,_=>exact Wt.blk_bs (h.2.2.1 rfl) rfl trivial rfl (by decide)
namespace Ex
def wit2:List (List UInt8):=[x.take 31,x++[0],[],x,List.replicate 32 0]
def u2:DTx:=⟨[⟨pt,wit2⟩],[⟨1,[]⟩],0⟩
def path2:List DBlock:=[⟨zHd,[]⟩,⟨zHd,[t]⟩,⟨zHd,[u2]⟩]
theorem szd_t:Tx.Szd t:=by
 refine ⟨fun y hy b hb=>?_,fun o ho=>?_⟩
 ·unfold t at hy
  rw [List.mem_singleton.1 hy] at hb
  cases hb
 ·simp only [t,List.mem_cons,List.not_mem_nil,or_false] at ho
  rcases ho with rfl|rfl <;> decide
theorem szd_u:Tx.Szd u:=by
 refine ⟨fun y hy b hb=>?_,fun o ho=>?_⟩
 ·unfold u at hy
  rw [List.mem_singleton.1 hy] at hb
  simp only [List.mem_cons,List.not_mem_nil,or_false] at hb
  rcases hb with rfl|rfl <;> decide
 ·unfold u at ho
  rw [List.mem_singleton.1 ho];decide
theorem szd_u2:Tx.Szd u2:=by
 refine ⟨fun y hy b hb=>?_,fun o ho=>?_⟩
 ·unfold u2 at hy
  rw [List.mem_singleton.1 hy] at hb
  simp only [wit2,List.mem_cons,List.not_mem_nil,or_false] at hb
  rcases hb with rfl|rfl|rfl|rfl|rfl <;> decide
 ·unfold u2 at ho
  rw [List.mem_singleton.1 ho];decide
theorem szd:∀b∈path,∀y∈b.txs,Tx.Szd y:=by
 intro b hb y hy
 simp only [path,List.mem_cons,List.not_mem_nil,or_false] at hb
 rcases hb with rfl|rfl|rfl
 ·cases hy
 ·rw [List.mem_singleton.1 hy];exact szd_t
 ·rw [List.mem_singleton.1 hy];exact szd_u
theorem szd2:∀b∈path2,∀y∈b.txs,Tx.Szd y:=by
 intro b hb y hy
 simp only [path2,List.mem_cons,List.not_mem_nil,or_false] at hb
 rcases hb with rfl|rfl|rfl
 ·cases hy
 ·rw [List.mem_singleton.1 hy];exact szd_t
 ·rw [List.mem_singleton.1 hy];exact szd_u2
theorem fits2:∀b∈path2,b.txs.length<=1000000∧∀y∈b.txs,Tx.Fits y:=by
 have h2:Tx.Fits u2:=by
  refine ⟨by decide,by decide,fun z hz=>?_,fun o ho=>?_⟩
  ·unfold u2 at hz
   rw [List.mem_singleton.1 hz]
   refine ⟨by decide,fun b hb=>?_⟩
   simp only [wit2,List.mem_cons,List.not_mem_nil,or_false] at hb
   rcases hb with rfl|rfl|rfl|rfl|rfl <;> decide
  ·unfold u2 at ho
   rw [List.mem_singleton.1 ho];decide
 intro b hb
 simp only [path2,List.mem_cons,List.not_mem_nil,or_false] at hb
 rcases hb with rfl|rfl|rfl
 ·exact ⟨by decide,fun y hy=>by cases hy⟩
 ·exact ⟨by decide,fun y hy=>by rw [List.mem_singleton.1 hy];exact (fit ⟨zHd,[t]⟩ (.tail _ (.head _)) t (.head _)).1⟩
 ·exact ⟨by decide,fun y hy=>by rw [List.mem_singleton.1 hy];exact h2⟩
theorem szd12:∀b∈path2++path,∀y∈b.txs,Tx.Szd y:=fun b hb=>(List.mem_append.1 hb).elim (szd2 b) (szd b)
theorem len_take {i:Nat} (hi:i<=3):(path.take i).length=i:=by rw [List.length_take];exact Nat.min_eq_left hi
theorem len_drop {i:Nat}:(path.drop i).length=3 - i:=by rw [List.length_drop];rfl
theorem rl_take {W:World} {S:Nat->Prop} {g c i:Nat} (h:RL 66 RBlock W S [.slice (some ⟨g,0,none⟩) 3 c] path) (hi:i<=3) (hc:3<=c∧c<=9223372036854775807):RL 66 RBlock W S [.slice (some ⟨g,0,none⟩) i c] (path.take i):=by
 have:=rl_cut (i:=0) (m:=i) (a0:=0) (c':=c) h (by omega) ⟨by omega,hc.2⟩ (by omega)
 rwa [List.drop_zero] at this
theorem rl_drop {W:World} {S:Nat->Prop} {g i:Nat} (h:RL 66 RBlock W S [.slice (some ⟨g,0,none⟩) 3 3] path) (hi:i<=3):RL 66 RBlock W S [.slice (if 3=i then some ⟨g,0,none⟩ else (some (⟨g,0,none⟩:Addr)).map (·.add (i*66))) (3 - i) (3 - i)] (path.drop i):=by
 have ht:(path.drop i).take (3 - i)=path.drop i:=List.take_of_length_le (by rw [len_drop];exact Nat.le_refl _)
 by_cases h3:3=i
 ·subst h3
  rw [if_pos rfl]
  have:=rl_cut (i:=0) (m:=0) (a0:=0) (c':=0) h (by omega) ⟨by omega,by omega⟩ (by omega)
  exact this
 ·rw [if_neg h3]
  have:=rl_cut (i:=i) (m:=3 - i) (a0:=0+i*66) (c':=3 - i) h (by omega) ⟨by omega,by omega⟩ rfl
  rw [ht] at this
  rw [Option.map_some,Addr.add_mid]
  exact this
end Ex

theorem set_in_w {p:DPoint} {A A':Option Addr} {m c m' c':Nat} (h:p.tx.length=32):(inC p A m c).set (0*34+33) (.slice A' m' c')=inC p A' m' c':=by
 unfold inC
 rw [List.set_append_right _ _ (by rw [len_point h];decide),len_point h]
 rfl
namespace Ex
theorem ux {T:Nat->Prop} {w0 W:World} {L:List Fact} {A8 A5 A6 A3 Ai Bi A17:Option Addr} {c8 c5 c6 c3 ci di c17 gw gm gx:Nat} {S5 S6 S1:Nat->Prop} {ys:List Value} (H:St T w0 W (Fact.row 76 66 (.slice A8 3 c8) 3 (bC zHd A5 0 c5++(bC zHd A6 1 c6++bC zHd A3 1 c3))::Fact.rep (RL 3 RTx) S5 [.slice A5 0 c5] []::Fact.rep (RL 3 RTx) S6 [.slice A6 1 c6] [Ex.t]::Fact.row 47 3 (.slice A3 1 c3) 1 (txC Ai Ex.u.ins.length ci Bi Ex.u.outs.length di Ex.u.lock)::Fact.row 71 34 (.slice Ai Ex.u.ins.length ci) Ex.u.ins.length (inC Ex.pt (some ⟨gw,0,none⟩) 5 5)::Fact.blk gw [Value.slice (some ⟨gx,0,none⟩) 31 32,.slice A17 (Ex.x.length+1) c17,.slice none 0 0,.slice (some ⟨gx,0,none⟩) 32 32,.slice (some ⟨gm,0,none⟩) 32 32] 23::Fact.blk gm ((List.replicate 32 (0:UInt8)).map u8v) 5::Fact.row 5 1 (.slice A17 (Ex.x.length+1) c17) (Ex.x.length+1) (Ex.x.map u8v++[.int .u8 0])::Fact.blk gx (Ex.x.map u8v) 25::Fact.row 41 2 (.slice Bi Ex.u.outs.length di) Ex.u.outs.length ys::Fact.els ROut 2 S1 ys Ex.u.outs::L)):∃S,St T w0 W (Fact.rep (RL 66 RBlock) S [.slice A8 3 c8] path2::L):=by
 have p1:W.ownsRow 0 _ _ _ _ _:=H.holds _ (.head _)
 have p2:RL 3 RTx W S5 [.slice A5 0 c5] []:=H.holds _ (.tail _ (.head _))
 have p3:RL 3 RTx W S6 [.slice A6 1 c6] [t]:=H.holds _ (.tail _ (.tail _ (.head _)))
 have p4:W.ownsRow 0 _ _ _ _ _:=H.holds _ (.tail _ (.tail _ (.tail _ (.head _))))
 have p5:W.ownsRow 0 _ _ _ _ _:=H.holds _ (.tail _ (.tail _ (.tail _ (.tail _ (.head _)))))
 have p6:W.heap[gw]?=_:=H.holds _ (.tail _ (.tail _ (.tail _ (.tail _ (.tail _ (.head _))))))
 have p7:W.heap[gm]?=_:=H.holds _ (.tail _ (.tail _ (.tail _ (.tail _ (.tail _ (.tail _ (.head _)))))))
 have p8:W.ownsRow 0 _ _ _ _ _:=H.holds _ (.tail _ (.tail _ (.tail _ (.tail _ (.tail _ (.tail _ (.tail _ (.head _))))))))
 have p9:W.heap[gx]?=_:=H.holds _ (.tail _ (.tail _ (.tail _ (.tail _ (.tail _ (.tail _ (.tail _ (.tail _ (.head _)))))))))
 have p10:W.ownsRow 0 _ _ _ _ _:=H.holds _ (.tail _ (.tail _ (.tail _ (.tail _ (.tail _ (.tail _ (.tail _ (.tail _ (.tail _ (.head _))))))))))
 have p11:=H.holds (Fact.els ROut 2 S1 ys u.outs) (.tail _ (.tail _ (.tail _ (.tail _ (.tail _ (.tail _ (.tail _ (.tail _ (.tail _ (.tail _ (.head _)))))))))))
 obtain ⟨S,hS⟩:∃S:Nat->Prop,S=(fun g=>(((((((((((Fact.row 76 66 (.slice A8 3 c8) 3 (bC zHd A5 0 c5++(bC zHd A6 1 c6++bC zHd A3 1 c3))).fp g∨(Fact.rep (RL 3 RTx) S5 [.slice A5 0 c5] []).fp g)∨(Fact.rep (RL 3 RTx) S6 [.slice A6 1 c6] [Ex.t]).fp g)∨(Fact.row 47 3 (.slice A3 1 c3) 1 (txC Ai Ex.u.ins.length ci Bi Ex.u.outs.length di Ex.u.lock)).fp g)∨(Fact.row 71 34 (.slice Ai Ex.u.ins.length ci) Ex.u.ins.length (inC Ex.pt (some ⟨gw,0,none⟩) 5 5)).fp g)∨(Fact.blk gw [Value.slice (some ⟨gx,0,none⟩) 31 32,.slice A17 (Ex.x.length+1) c17,.slice none 0 0,.slice (some ⟨gx,0,none⟩) 32 32,.slice (some ⟨gm,0,none⟩) 32 32] 23).fp g)∨(Fact.blk gm ((List.replicate 32 (0:UInt8)).map u8v) 5).fp g)∨(Fact.row 5 1 (.slice A17 (Ex.x.length+1) c17) (Ex.x.length+1) (Ex.x.map u8v++[.int .u8 0])).fp g)∨(Fact.blk gx (Ex.x.map u8v) 25).fp g)∨(Fact.row 41 2 (.slice Bi Ex.u.outs.length di) Ex.u.outs.length ys).fp g)∨(Fact.els ROut 2 S1 ys Ex.u.outs).fp g)):=⟨_,rfl⟩
 have m1:∀g,(Fact.row 76 66 (.slice A8 3 c8) 3 (bC zHd A5 0 c5++(bC zHd A6 1 c6++bC zHd A3 1 c3))).fp g->S g:=fun g hg=>by rw [hS];exact .inl (.inl (.inl (.inl (.inl (.inl (.inl (.inl (.inl (.inl (hg))))))))))
 have m2:∀g,(Fact.rep (RL 3 RTx) S5 [.slice A5 0 c5] []).fp g->S g:=fun g hg=>by rw [hS];exact .inl (.inl (.inl (.inl (.inl (.inl (.inl (.inl (.inl (.inr (hg))))))))))
 have m3:∀g,(Fact.rep (RL 3 RTx) S6 [.slice A6 1 c6] [Ex.t]).fp g->S g:=fun g hg=>by rw [hS];exact .inl (.inl (.inl (.inl (.inl (.inl (.inl (.inl (.inr (hg)))))))))
 have m4:∀g,(Fact.row 47 3 (.slice A3 1 c3) 1 (txC Ai Ex.u.ins.length ci Bi Ex.u.outs.length di Ex.u.lock)).fp g->S g:=fun g hg=>by rw [hS];exact .inl (.inl (.inl (.inl (.inl (.inl (.inl (.inr (hg))))))))
 have m5:∀g,(Fact.row 71 34 (.slice Ai Ex.u.ins.length ci) Ex.u.ins.length (inC Ex.pt (some ⟨gw,0,none⟩) 5 5)).fp g->S g:=fun g hg=>by rw [hS];exact .inl (.inl (.inl (.inl (.inl (.inl (.inr (hg)))))))
 have m6:∀g,(Fact.blk gw [Value.slice (some ⟨gx,0,none⟩) 31 32,.slice A17 (Ex.x.length+1) c17,.slice none 0 0,.slice (some ⟨gx,0,none⟩) 32 32,.slice (some ⟨gm,0,none⟩) 32 32] 23).fp g->S g:=fun g hg=>by rw [hS];exact .inl (.inl (.inl (.inl (.inl (.inr (hg))))))
 have m7:∀g,(Fact.blk gm ((List.replicate 32 (0:UInt8)).map u8v) 5).fp g->S g:=fun g hg=>by rw [hS];exact .inl (.inl (.inl (.inl (.inr (hg)))))
 have m8:∀g,(Fact.row 5 1 (.slice A17 (Ex.x.length+1) c17) (Ex.x.length+1) (Ex.x.map u8v++[.int .u8 0])).fp g->S g:=fun g hg=>by rw [hS];exact .inl (.inl (.inl (.inr (hg))))
 have m9:∀g,(Fact.blk gx (Ex.x.map u8v) 25).fp g->S g:=fun g hg=>by rw [hS];exact .inl (.inl (.inr (hg)))
 have m10:∀g,(Fact.row 41 2 (.slice Bi Ex.u.outs.length di) Ex.u.outs.length ys).fp g->S g:=fun g hg=>by rw [hS];exact .inl (.inr (hg))
 have m11:∀g,(Fact.els ROut 2 S1 ys Ex.u.outs).fp g->S g:=fun g hg=>by rw [hS];exact .inr (hg)
 obtain ⟨_,_,hv1,k1,k2⟩:=row_form p1
 cases hv1
 obtain ⟨_,_,hv4,k3,k4⟩:=row_form p4
 cases hv4
 obtain ⟨_,_,hv5,k5,k6⟩:=row_form p5
 cases hv5
 obtain ⟨_,_,hv10,k7,k8⟩:=row_form p10
 cases hv10
 have rx:Bs W S (.slice (some ⟨gx,0,none⟩) 32 32) x:=Wt.blk_bs p9 rfl (m9 gx rfl) len_x (by decide)
 have rw_:RL 1 RB W S [.slice (some ⟨gw,0,none⟩) 5 5] wit2:=Wt.rl_rows [[.slice (some ⟨gx,0,none⟩) 31 32],[.slice A17 (x.length+1) c17],[.slice none 0 0],[.slice (some ⟨gx,0,none⟩) 32 32],[.slice (some ⟨gm,0,none⟩) 32 32]] p6 rfl (m6 gw rfl) (fun c hc=>by
   simp only [List.mem_cons,List.not_mem_nil,or_false] at hc
   rcases hc with rfl|rfl|rfl|rfl|rfl <;> rfl)
  (.cons ⟨_,rfl,rx.pre (h:=31) len_x (by decide)⟩ (.cons ⟨_,rfl,(bs_own (l:=x++[0]) (by rw [List.map_append];exact p8) (by rw [List.length_append];rfl)).mono (fun g _ hg=>m8 g hg)⟩ (.cons ⟨_,rfl,Bs.nil⟩ (.cons ⟨_,rfl,rx⟩ (.cons ⟨_,rfl,Wt.blk_bs p7 rfl (m7 gm rfl) List.length_replicate (by decide)⟩ .nil))))) rfl (by decide)
 have ri:RL 34 RIn W S [.slice Ai u2.ins.length ci] u2.ins:=⟨Ai,ci,_,rfl,k5,k6,rd_own p5 (fun g hg=>m5 g hg),fun i y hy=>by
  match i,hy with
  | 0,hy =>
   obtain rfl:_=y:=Option.some.inj hy
   rw [Nat.zero_mul,sa (len_in len_pt)]
   exact in_rep (w:=wit2) len_pt n_pt rw_
  | _+1,hy=>cases hy⟩
 have ro:RL 2 ROut W S [.slice Bi u2.outs.length di] u2.outs:=⟨Bi,di,ys,rfl,k7,k8,rd_own p10 (fun g hg=>m10 g hg),fun i y hy=>mono_Out _ _ _ _ _ (p11.2 i y hy) (fun g _ hg=>m11 g hg)⟩
 have rt:RL 3 RTx W S [.slice A3 1 c3] [u2]:=⟨A3,c3,_,rfl,k3,k4,rd_own p4 (fun g hg=>m4 g hg),fun i y hy=>by
  match i,hy with
  | 0,hy =>
   obtain rfl:u2=y:=Option.some.inj hy
   rw [Nat.zero_mul,sa (m:=3) rfl]
   exact tx_rep (l:=u2.ins) (r:=u2.outs) ri ro i64s.1
  | _+1,hy=>cases hy⟩
 have lb:∀{A:Option Addr} {m c:Nat},(bC zHd A m c).length=66:=lB zHd_ok
 have rp:RL 66 RBlock W S [.slice A8 3 c8] path2:=⟨A8,c8,_,rfl,k1,k2,rd_own p1 (fun g hg=>m1 g hg),fun i y hy=>by
  match i,hy with
  | 0,hy =>
   obtain rfl:_=y:=Option.some.inj hy
   rw [Nat.zero_mul,sub_head lb]
   exact blk_rep (l:=[]) zHd_ok (mono_L mono_Tx _ _ _ _ _ p2 (fun g _ hg=>m2 g hg))
  | 1,hy =>
   obtain rfl:_=y:=Option.some.inj hy
   rw [show 1*66=66+0 from rfl,sub_skip lb,sub_head lb]
   exact blk_rep (l:=[t]) zHd_ok (mono_L mono_Tx _ _ _ _ _ p3 (fun g _ hg=>m3 g hg))
  | 2,hy =>
   obtain rfl:_=y:=Option.some.inj hy
   rw [show 2*66=66+(66+0) from rfl,sub_skip lb,sub_skip lb,sa lb]
   exact blk_rep (l:=[u2]) zHd_ok rt
  | _+3,hy=>cases hy⟩
 have H2:=H.two.two.two.two.two.two.two.two.two.two
 exact ⟨S,H2.turn0 (f':=Fact.rep (RL 66 RBlock) S [.slice A8 3 c8] path2) Fr.refl rp (fun g hg=>.inl (by have h2:S g:=hg;rw [hS] at h2;exact h2))⟩
end Ex
def Fact.exY (S:Nat->Prop) (gc gi go:Nat) (ys:List Value):Fact:=⟨S,fun W=>(Rd W S 66 (some ⟨gc,0,none⟩) 3 ys∧∀(i:Nat) (y:DBlock),Ex.path[i]?=some y->RBlock W S (sub ys (i*66) 66) y)∧RTx W S (txC (some ⟨gi,0,none⟩) 1 1 (some ⟨go,0,none⟩) 2 2 0) Ex.t,fun _ _ h k=>⟨⟨h.1.1.keep (fun g _ hg=>k g hg),fun i y hy=>keeps_Block _ _ _ _ _ (h.1.2 i y hy) (fun g _ hg=>k g hg)⟩,keeps_Tx _ _ _ _ _ h.2 (fun g _ hg=>k g hg)⟩⟩
theorem St.exY {T:Nat->Prop} {w0 W:World} {L:List Fact} {S:Nat->Prop} {gc gi go:Nat} (H:St T w0 W (Fact.ex S gc gi go::L)):∃ys,ys.length=198∧ys.all (·.oneCell')=true∧St T w0 W (Fact.exY S gc gi go ys::L):=by
 obtain ⟨hl,ht⟩:=H.holds _ (.head _)
 obtain ⟨A_,c_,ys,hv_,-,-,hr,hel⟩:=hl
 cases hv_
 exact ⟨ys,hr.1,path_one hr.1 hel,H.turn0 (f':=Fact.exY S gc gi go ys) Fr.refl ⟨⟨hr,hel⟩,ht⟩ (fun g hg=>.inl hg)⟩

theorem shows_take {S S1:Nat->Prop} {gc i:Nat} {As:Option Addr} {cs:Nat} {s:List UInt8} {pt:DPoint} {hq iq:List UInt8} (w:World) (hl:RL 66 RBlock w S [.slice (some ⟨gc,0,none⟩) 3 3] Ex.path) (hG:Gat w 2 formsC) (hB:Old.Gl w) (hi:i<=3) (hs:Bs w S1 (.slice As s.length cs) s) (hp:pt.tx.length=32) (hn:I64 pt.n) (hh:hq.length=32) (hi_:iq.length=32):Calls Tryz.prog 3 [.slice (some ⟨gc,0,none⟩) i 3,.agg (qC As s.length cs pt hq iq).toArray].toArray w (Ret (Is w (.bool true))):=by
 have e:=Ex.len_take hi
 have:=watchShowsB (p:=Ex.path.take i) w (by rw [e];exact Ex.rl_take hl hi ⟨Nat.le_refl _,by decide⟩) hG hB (fun b hb=>Ex.szd b (List.mem_of_mem_take hb)) hs hp hn hh hi_
 rw [e] at this
 exact this
theorem grows_take {S S1:Nat->Prop} {gc i:Nat} {As:Option Addr} {cs:Nat} {s:List UInt8} {pt:DPoint} {hq iq:List UInt8} (w:World) (hl:RL 66 RBlock w S [.slice (some ⟨gc,0,none⟩) 3 3] Ex.path) (hG:Gat w 2 formsC) (hB:Old.Gl w) (hi:i<=3) (hs:Bs w S1 (.slice As s.length cs) s) (hp:pt.tx.length=32) (hn:I64 pt.n) (hh:hq.length=32) (hi_:iq.length=32):Calls Tryz.prog 26 [.slice (some ⟨gc,0,none⟩) i 3,.slice (if 3=i then (some ⟨gc,0,none⟩) else ((some ⟨gc,0,none⟩):Option Addr).map (·.add (i*66))) (3 - i) (3 - i),.agg (qC As s.length cs pt hq iq).toArray].toArray w (Ret (Is w (.bool true))):=by
 have e:=Ex.len_take hi
 have e2:=Ex.len_drop (i:=i)
 have:=watchGrowsB (p:=Ex.path.take i) (r:=Ex.path.drop i) w (by rw [e];exact Ex.rl_take hl hi ⟨Nat.le_refl _,by decide⟩) (by rw [e2];exact Ex.rl_drop hl hi) hG hB (fun b hb=>Ex.szd b (List.mem_of_mem_take hb)) (fun b hb=>Ex.szd b (List.mem_of_mem_drop hb)) hs hp hn hh hi_
 rw [e,e2] at this
 exact this
theorem spends_take {S:Nat->Prop} {gc i:Nat} {pt:DPoint} (w:World) (hl:RL 66 RBlock w S [.slice (some ⟨gc,0,none⟩) 3 3] Ex.path) (hG:Gat w 2 formsC) (hB:Old.Gl w) (hi:i<=3) (hp:pt.tx.length=32) (hn:I64 pt.n):Calls Tryz.prog 27 [.slice (some ⟨gc,0,none⟩) i 3,.agg (pointC pt).toArray].toArray w (Ret (Is w (.bool true))):=by
 have e:=Ex.len_take hi
 have:=watchSpendsB (p:=Ex.path.take i) w (by rw [e];exact Ex.rl_take hl hi ⟨Nat.le_refl _,by decide⟩) hG hB (fun b hb=>Ex.szd b (List.mem_of_mem_take hb)) hp hn
 rw [e] at this
 exact this
attribute [local irreducible] Tx.dig Old.Bl.sum

theorem watchKnownB (w:World) (hG:Gat w 2 formsC) (hB:Old.Gl w):Calls Tryz.prog 4 [].toArray w (Ret (Is w (.bool true))):=by
 refine kE (l:=[]) Tryz.func4 U U ?_
 have H:=St.start nT w
 refine kR (sAb U (lkR (sf (ecl Tryz.func23 U U (example13 _ (H.gat hG) (H.gl hB)) ?_))))
 rintro _ W ⟨S,gc,gi,go,rfl,hn1⟩
 replace H:=H.new hn1
 clear hn1
 refine sMt U (sEx U U (sEx U U (sEx U U (sf (eal [.slice none 0 0,.slice none 0 0,.int .i64 0] tz47 H ?_)))))
 clear H;intro gt W H
 refine sf (eal (List.replicate 32 (u8v 0)) tz25 H ?_)
 clear H;intro gx W H
 refine sAs U (sf (esk (txC (some ⟨gi,0,none⟩) 1 1 (some ⟨go,0,none⟩) 2 2 0) U U U ts47 U U H (by decide) U ?_))
 clear H;intro W H
 refine sf (esk (Ex.x.map u8v) U U U ts25 (by rw [List.length_map];exact Ex.len_x) (all_u8L _) H (by decide) (spl_all (by rw [List.length_map,List.length_replicate];exact Ex.len_x)) ?_)
 clear H;intro W H
 refine lkR (sR (d_arrA U U tu25 ts5) (sf (eI Tryz.func24 U U (sumB _ (H.gl hB) (Wt.blk_bs (S:=fun _=>True) (H.blk (g:=gx)) U trivial Ex.len_x (by decide)) (by rw [Ex.len_x];decide)) H ?_)))
 clear H;intro W H
 refine sf (eal (List.replicate 32 (u8v 0)) tz25 H ?_)
 clear H;intro gh W H
 refine sf (esk ((Old.Bl.sum Ex.x).map u8v) U U U ts25 (by rw [List.length_map];exact (Old.Bl.len_sum _)) (all_u8L _) H (by decide) (spl_all (by rw [List.length_map,List.length_replicate];exact (Old.Bl.len_sum _))) ?_)
 clear H;intro W H
 refine ln (kQ (kR (sAi U (ln (kb (kL 18 [0,5,6,7] (fun mm sl W=>∃i:Nat,4 - i=mm∧sl=[(5,.int .i64 (i:Int))]∧(i<=4)∧St nT w W [Fact.blk gh ((Old.Bl.sum Ex.x).map u8v) 25,Fact.blk gx (Ex.x.map u8v) 25,Fact.blk gt (txC (some ⟨gi,0,none⟩) 1 1 (some ⟨go,0,none⟩) 2 2 0) 47,Fact.ex S gc gi go]) _ _ ⟨0,U,U,Nat.zero_le _,H⟩ ⟨U,trivial⟩ (fun mm sl ρv W hJ=>?_)))))))
 clear H;obtain ⟨i,rfl,rfl,hi,H⟩:=hJ
 refine ko (kQ (kR (sMi U (sR (d_le U U U) (ln (kC U (fun hc19=>?_) (fun hc19=>?_)))))))
 ·have hi3:i<=3:=by simp at hc19;omega
  refine kS (kQ (kb (kR (sAi U (ln (kb (kL 22 [0,6,7] (fun mm sl W=>∃k:Nat,4 - k=mm∧sl=[(6,.int .i64 (k:Int))]∧(k<=4)∧St nT w W [Fact.blk gh ((Old.Bl.sum Ex.x).map u8v) 25,Fact.blk gx (Ex.x.map u8v) 25,Fact.blk gt (txC (some ⟨gi,0,none⟩) 1 1 (some ⟨go,0,none⟩) 2 2 0) 47,Fact.ex S gc gi go]) _ _ ⟨0,U,U,Nat.zero_le _,H⟩ ⟨U,trivial⟩ (fun mm sl ρv W hJ=>?_))))))))
  clear H;obtain ⟨k,rfl,rfl,hk0,H⟩:=hJ
  refine ko (kQ (kR (sMi U (sLt U U (ln (kC U (fun hc23=>?_) (fun hc23=>?_)))))))
  ·have hk:k<4:=by simp at hc23;omega
   refine kS (kQ (kb (kQ (k_cut 26 [7] (fun sl W=>∃g0:Nat,∃g1:Nat,∃g2:Nat,∃g3:Nat,∃g7:Nat,sl=[(7,.pointer (some ⟨g7,0,none⟩))]∧St nT w W [Fact.fx true true true true g0 g1 g2 g3,Fact.blk g7 (qC (scrA k g0 g1 g2) (scrN k) (scrN k) (⟨(Tx.dig Tx.tTx Ex.t),(k:Int)⟩:DPoint) (Old.Bl.sum Ex.x) (Tx.dig Tx.tTx Ex.t)) 29,Fact.blk gh ((Old.Bl.sum Ex.x).map u8v) 25,Fact.blk gx (Ex.x.map u8v) 25,Fact.blk gt (txC (some ⟨gi,0,none⟩) 1 1 (some ⟨go,0,none⟩) 2 2 0) 47,Fact.ex S gc gi go]) ?_ (fun sl ρv W hJ=>?_)))))
   ·skip
    refine reg9 (S_:=S) (k:=k) (gc:=gc) (gi:=gi) (go:=go) (gt:=gt) (gh:=gh) (L0:=[Fact.blk gh ((Old.Bl.sum Ex.x).map u8v) 25,Fact.blk gx (Ex.x.map u8v) 25,Fact.blk gt (txC (some ⟨gi,0,none⟩) 1 1 (some ⟨go,0,none⟩) 2 2 0) 47,Fact.ex S gc gi go]) hk U U U (.tail _ (.tail _ (.head _))) (.head _) (.tail _ (.tail _ (.tail _ (.head _)))) hG hB U (by kernel_rfl) ⟨_,U,U,U,U,U⟩ ⟨_,U,U,U,U,U⟩ ⟨_,U,U,U,U,U⟩ ⟨_,U,U,U,U,U⟩ ⟨_,U,U,U,U,U⟩ ⟨_,U,U,U,U,U⟩ ⟨_,U,U,U,U,U⟩ ⟨_,U,U,U,U,U⟩ ⟨_,U,U,U,U,U⟩ ⟨_,U,U,U,U,U⟩ ⟨_,U,U,U,U,U⟩ ⟨_,U,U,U,U,U⟩ ⟨_,U,U,U,U,U⟩ ⟨_,U,U,U,U,U⟩ ⟨_,U,U,U,U,U⟩ ⟨_,U,U,U,U,U⟩ ⟨_,U,U,U,U,U⟩ (by kernel_rfl) H (fun g0 g1 g2 g3 g7 ρ9 W hE9 h79 H=>?_)
    refine kn (n_then ?_)
    refine ⟨_,_,U,?_,?_,⟨g0,g1,g2,g3,g7,U,H⟩⟩
    ·exact hE9
    ·refine ⟨?_,trivial⟩
     ·exact h79
   clear H;obtain ⟨g0,g1,g2,g3,g7,rfl,H⟩:=hJ
   have hpk:((⟨(Tx.dig Tx.tTx Ex.t),(k:Int)⟩:DPoint)).tx.length=32:=Tx.len_dig
   have hnk:I64 ((⟨(Tx.dig Tx.tTx Ex.t),(k:Int)⟩:DPoint)).n:=⟨by dsimp only;omega,by dsimp only;omega⟩
   refine kQ (kR (sMi U (sEq U U (ln (kC U (fun hc42=>?_) (fun hc42=>?_))))))
   ·skip
    refine kR (sR (dB (vs:=(List.replicate 32 (0:UInt8)).map u8v) U (by kernel_rfl)) ?_)
    refine sFa U tf29_2 (sf (esk (qC (scrA k g0 g1 g2) (scrN k) (scrN k) (⟨(Tx.dig Tx.tTx Ex.t),(k:Int)⟩:DPoint) (List.replicate 32 (0:UInt8)) (Tx.dig Tx.tTx Ex.t)) U U U ts25 (by simp) (all_u8L _) H (by rw [len_qC hpk (Old.Bl.len_sum _) Tx.len_dig];decide) (spl_q_h hpk (Old.Bl.len_sum _) List.length_replicate) ?_))
    clear H;intro W H
    refine lkR (sR (dB (vs:=pointC Ex.p3) U (by kernel_rfl)) ?_)
    refine sFa U tf29_1 (sf (esk (qC (scrA k g0 g1 g2) (scrN k) (scrN k) Ex.p3 (List.replicate 32 (0:UInt8)) (Tx.dig Tx.tTx Ex.t)) U U U ts27 (len_point Ex.len_p3) pt_one H (by rw [len_qC hpk List.length_replicate Tx.len_dig];decide) (spl_q_p hpk Ex.len_p3) ?_))
    clear H;intro W H
    refine ln (kr (sR (dB (vs:=(List.replicate 32 (0:UInt8)).map u8v) U (by kernel_rfl)) ?_))
    refine sFa U tf29_3 (sf (esk (qC (scrA k g0 g1 g2) (scrN k) (scrN k) Ex.p3 (List.replicate 32 (0:UInt8)) (List.replicate 32 (0:UInt8))) U U U ts25 (by simp) (all_u8L _) H (by rw [len_qC Ex.len_p3 List.length_replicate Tx.len_dig];decide) (spl_q_i Ex.len_p3 List.length_replicate Tx.len_dig List.length_replicate) ?_))
    clear H;intro W H
    refine ln (kQ (k_draw [(0,true),(1,true),(2,true),(3,true),(4,false),(5,true),(6,true),(7,true),(8,true),(9,true),(10,true),(11,true),(12,true),(13,true),(14,false),(15,true),(16,true),(17,true),(18,true),(19,true),(20,true),(21,true),(22,true),(23,false),(24,true),(25,true)] _ (by kernel_rfl) (by kernel_rfl) H (.refl _) ?_))
    clear H;intro W H
    refine cMs U U (cMi U U (cR U (fun W H=>d_cutP U U U (by omega) U tu22 ts76) (cR U (fun W H=>dM (g:=g7) (off:=0) U H (sa (len_qC Ex.len_p3 List.length_replicate List.length_replicate)) (len_qC Ex.len_p3 List.length_replicate List.length_replicate) U U U ta29 ts29) (cf U (eI Tryz.func3 U U (shows_take (s:=scrL k) _ (H.get (f:=Fact.ex S gc gi go)).1 (H.gat hG) (H.gl hB) hi3 (scr_bs (H.get (f:=Fact.fx true true true true g0 g1 g2 g3)) hk) Ex.len_p3 Ex.n_p3 List.length_replicate List.length_replicate) H ?_)))))
    clear H;intro W H
    refine ⟨H.sb,?_⟩
    refine cR U (fun W H=>d_not U U) (cR U (fun W H=>mv_bx (c:=false) U U (by rfl)) ?_)
    refine c_run U (w_g U U U U) U (fun W H=>mv_s U U) (c_run U (w_g U U U U) U (fun W H=>mv_i U U) (c_run U (w_g U U U U) U (fun W H=>d_cutP U U U (by omega) U tu22 ts76) (c_run U (w_g U U U U) U (fun W H=>mv_s U U) (c_run U (w_g U U U U) U (fun W H=>mv_i U U) (c_run U (w_g U U U U) U (fun W H=>d_cutS U U U (by omega) U tu22 ts76) (c_run U (w_g U U U U) U (fun W H=>dM (g:=g7) (off:=0) U H (sa (len_qC Ex.len_p3 List.length_replicate List.length_replicate)) (len_qC Ex.len_p3 List.length_replicate List.length_replicate) U U U ta29 ts29) (cf U (e_call (w_g U U U U) U U Tryz.func26 U U U (grows_take (s:=scrL k) _ (H.get (f:=Fact.ex S gc gi go)).1 (H.gat hG) (H.gl hB) hi3 (scr_bs (H.get (f:=Fact.fx true true true true g0 g1 g2 g3)) hk) Ex.len_p3 Ex.n_p3 List.length_replicate List.length_replicate) ?_))))))))
    rintro _ W ⟨rfl,hb⟩
    replace H:=H.below hb
    clear hb
    refine ⟨H.sb,?_⟩
    refine c_run U (w_g U U U U) U (fun W H=>d_not U U) (cR U (fun W H=>d_pickF U U U) (cR U (fun W H=>mv_bx (c:=false) U U (by rfl)) ?_))
    refine c_run U (w_g U U U U) U (fun W H=>mv_s U U) (c_run U (w_g U U U U) U (fun W H=>mv_i U U) (c_run U (w_g U U U U) U (fun W H=>d_cutP U U U (by omega) U tu22 ts76) (c_run U (w_g U U U U) U (fun W H=>dF U U tf29_1) (c_run U (w_g U U U U) U (fun W H=>dM (g:=g7) (off:=1) U H (qc_p Ex.len_p3) (len_point Ex.len_p3) U U U ta27 ts27) (cf U (e_call (w_g U U U U) U U Tryz.func27 U U U (spends_take _ (H.get (f:=Fact.ex S gc gi go)).1 (H.gat hG) (H.gl hB) hi3 Ex.len_p3 Ex.n_p3) ?_))))))
    rintro _ W ⟨rfl,hb⟩
    replace H:=H.below hb
    clear hb
    refine ⟨H.sb,?_⟩
    refine c_run U (w_g U U U U) U (fun W H=>d_not U U) (cR U (fun W H=>d_pickF U U U) (c_nil (kF U U (kS (kn (zE (kI U U U (by omega) U (kn (kY ?_)))))))))
    refine ⟨_,_,_,?_,U,?_,?_,⟨k+1,U,U,by omega,(H.sub (L':=[Fact.blk gh ((Old.Bl.sum Ex.x).map u8v) 25,Fact.blk gx (Ex.x.map u8v) 25,Fact.blk gt (txC (some ⟨gi,0,none⟩) 1 1 (some ⟨go,0,none⟩) 2 2 0) 47,Fact.ex S gc gi go]) (by repeat (first|exact .refl _|exact List.nil_sublist _|refine .cons_cons _ ?_|refine .cons _ ?_)))⟩⟩
    ·omega
    ·with_reducible repeat first|exact .refl|refine .f ?_ ?_ ?_;kernel_rfl;kernel_rfl|refine .u ?_ ?_;kernel_rfl
    ·refine ⟨?_,trivial⟩
     ·exact vi (by omega)
   ·skip
    refine kS (kQ (k_draw [(0,true),(1,true),(2,true),(3,true),(4,false),(5,true),(6,true),(7,true),(8,true),(9,true),(10,true),(11,true),(12,true),(13,true),(14,false),(15,true),(16,true),(17,true),(18,true),(19,true),(20,true),(21,true),(22,true),(23,false),(24,true),(25,true)] _ (by kernel_rfl) (by kernel_rfl) H (.refl _) ?_))
    clear H;intro W H
    refine cMs U U (cMi U U (cR U (fun W H=>d_cutP U U U (by omega) U tu22 ts76) (cR U (fun W H=>dM (g:=g7) (off:=0) U H (sa (len_qC hpk (Old.Bl.len_sum _) Tx.len_dig)) (len_qC hpk (Old.Bl.len_sum _) Tx.len_dig) U U U ta29 ts29) (cf U (eI Tryz.func3 U U (shows_take (s:=scrL k) _ (H.get (f:=Fact.ex S gc gi go)).1 (H.gat hG) (H.gl hB) hi3 (scr_bs (H.get (f:=Fact.fx true true true true g0 g1 g2 g3)) hk) hpk hnk (Old.Bl.len_sum _) Tx.len_dig) H ?_)))))
    clear H;intro W H
    refine ⟨H.sb,?_⟩
    refine cR U (fun W H=>d_not U U) (cR U (fun W H=>mv_bx (c:=false) U U (by rfl)) ?_)
    refine c_run U (w_g U U U U) U (fun W H=>mv_s U U) (c_run U (w_g U U U U) U (fun W H=>mv_i U U) (c_run U (w_g U U U U) U (fun W H=>d_cutP U U U (by omega) U tu22 ts76) (c_run U (w_g U U U U) U (fun W H=>mv_s U U) (c_run U (w_g U U U U) U (fun W H=>mv_i U U) (c_run U (w_g U U U U) U (fun W H=>d_cutS U U U (by omega) U tu22 ts76) (c_run U (w_g U U U U) U (fun W H=>dM (g:=g7) (off:=0) U H (sa (len_qC hpk (Old.Bl.len_sum _) Tx.len_dig)) (len_qC hpk (Old.Bl.len_sum _) Tx.len_dig) U U U ta29 ts29) (cf U (e_call (w_g U U U U) U U Tryz.func26 U U U (grows_take (s:=scrL k) _ (H.get (f:=Fact.ex S gc gi go)).1 (H.gat hG) (H.gl hB) hi3 (scr_bs (H.get (f:=Fact.fx true true true true g0 g1 g2 g3)) hk) hpk hnk (Old.Bl.len_sum _) Tx.len_dig) ?_))))))))
    rintro _ W ⟨rfl,hb⟩
    replace H:=H.below hb
    clear hb
    refine ⟨H.sb,?_⟩
    refine c_run U (w_g U U U U) U (fun W H=>d_not U U) (cR U (fun W H=>d_pickF U U U) (cR U (fun W H=>mv_bx (c:=false) U U (by rfl)) ?_))
    refine c_run U (w_g U U U U) U (fun W H=>mv_s U U) (c_run U (w_g U U U U) U (fun W H=>mv_i U U) (c_run U (w_g U U U U) U (fun W H=>d_cutP U U U (by omega) U tu22 ts76) (c_run U (w_g U U U U) U (fun W H=>dF U U tf29_1) (c_run U (w_g U U U U) U (fun W H=>dM (g:=g7) (off:=1) U H (qc_p hpk) (len_point hpk) U U U ta27 ts27) (cf U (e_call (w_g U U U U) U U Tryz.func27 U U U (spends_take _ (H.get (f:=Fact.ex S gc gi go)).1 (H.gat hG) (H.gl hB) hi3 hpk hnk) ?_))))))
    rintro _ W ⟨rfl,hb⟩
    replace H:=H.below hb
    clear hb
    refine ⟨H.sb,?_⟩
    refine c_run U (w_g U U U U) U (fun W H=>d_not U U) (cR U (fun W H=>d_pickF U U U) (c_nil (kF U U (kS (kn (zE (kI U U U (by omega) U (kn (kY ?_)))))))))
    refine ⟨_,_,_,?_,U,?_,?_,⟨k+1,U,U,by omega,(H.sub (L':=[Fact.blk gh ((Old.Bl.sum Ex.x).map u8v) 25,Fact.blk gx (Ex.x.map u8v) 25,Fact.blk gt (txC (some ⟨gi,0,none⟩) 1 1 (some ⟨go,0,none⟩) 2 2 0) 47,Fact.ex S gc gi go]) (by repeat (first|exact .refl _|exact List.nil_sublist _|refine .cons_cons _ ?_|refine .cons _ ?_)))⟩⟩
    ·omega
    ·with_reducible repeat first|exact .refl|refine .f ?_ ?_ ?_;kernel_rfl;kernel_rfl|refine .u ?_ ?_;kernel_rfl
    ·refine ⟨?_,trivial⟩
     ·exact vi (by omega)
  ·skip
   refine ke (xQ (xQ ?_))
   refine xH (kn (zE (kI U U U (by omega) U (kn (kY ?_)))))
   refine ⟨_,_,_,?_,U,?_,?_,⟨i+1,U,U,by omega,H⟩⟩
   ·omega
   ·with_reducible repeat first|exact .refl|refine .f ?_ ?_ ?_;kernel_rfl;kernel_rfl|refine .u ?_ ?_;kernel_rfl
   ·refine ⟨?_,trivial⟩
    ·exact vi (by omega)
 ·skip
  refine ke (xQ (xQ ?_))
  refine xH (kR (sMs U (sf (ecl Tryz.func7 U U (copyEx _ (H.get (f:=Fact.ex S gc gi go)).1) ?_))))
  rintro _ W ⟨A8,c8,A5,c5,S5,A6,c6,S6,A3,c3,Ai,ci,Bi,di,xs,ys,S0,S1,rfl,hc8,hn1⟩
  replace H:=H.add hn1
  replace H:St nT w W [Fact.row 76 66 (.slice A8 3 c8) 3 (bC zHd A5 0 c5++(bC zHd A6 1 c6++bC zHd A3 1 c3)),Fact.rep (RL 3 RTx) S5 [.slice A5 0 c5] [],Fact.rep (RL 3 RTx) S6 [.slice A6 1 c6] [Ex.t],Fact.row 47 3 (.slice A3 1 c3) 1 (txC Ai Ex.u.ins.length ci Bi Ex.u.outs.length di Ex.u.lock),Fact.row 71 34 (.slice Ai Ex.u.ins.length ci) Ex.u.ins.length xs,Fact.els RIn 34 S0 xs Ex.u.ins,Fact.row 41 2 (.slice Bi Ex.u.outs.length di) Ex.u.outs.length ys,Fact.els ROut 2 S1 ys Ex.u.outs,Fact.blk gh ((Old.Bl.sum Ex.x).map u8v) 25,Fact.blk gx (Ex.x.map u8v) 25,Fact.blk gt (txC (some ⟨gi,0,none⟩) 1 1 (some ⟨go,0,none⟩) 2 2 0) 47,Fact.ex S gc gi go]:=H
  clear hn1
  refine sAs U (ln ?_)
  obtain ⟨g8,rfl⟩:=row_own (H.get (f:=Fact.row 76 66 (.slice A8 3 c8) 3 (bC zHd A5 0 c5++(bC zHd A6 1 c6++bC zHd A3 1 c3)))) (by decide)
  obtain ⟨g9,rfl⟩:=row_own (H.get (f:=Fact.row 47 3 (.slice A3 1 c3) 1 (txC Ai Ex.u.ins.length ci Bi Ex.u.outs.length di Ex.u.lock))) (by decide)
  obtain ⟨gI,rfl⟩:=row_own (H.get (f:=Fact.row 71 34 (.slice Ai Ex.u.ins.length ci) Ex.u.ins.length xs)) (by decide)
  obtain ⟨hxl,hxe⟩:=H.get (f:=Fact.els RIn 34 S0 xs Ex.u.ins)
  obtain ⟨Aw,cw,hxi,-,-,-⟩:=in_of (hxe 0 ⟨Ex.pt,[List.replicate 16 0,Ex.x]⟩ rfl)
  replace hxl:xs.length=34:=hxl
  rw [Nat.zero_mul,sa hxl] at hxi
  replace hxi:xs=inC Ex.pt Aw 2 cw:=hxi
  subst hxi
  have lb:∀{A:Option Addr} {m c:Nat},(bC zHd A m c).length=66:=lB zHd_ok
  have hLx:sub (bC zHd A5 0 c5++(bC zHd A6 1 c6++bC zHd (some ⟨g9,0,none⟩) 1 c3)) (2*66) 66=bC zHd (some ⟨g9,0,none⟩) 1 c3:=by rw [show 2*66=66+(66+0) from rfl,sub_skip lb,sub_skip lb,sa lb]
  have hLt:sub (txC (some ⟨gI,0,none⟩) Ex.u.ins.length ci Bi Ex.u.outs.length di Ex.u.lock) (0*3) 3=txC (some ⟨gI,0,none⟩) Ex.u.ins.length ci Bi Ex.u.outs.length di Ex.u.lock:=by rw [Nat.zero_mul];exact sa rfl
  have hl1:2<3:=by decide
  have hl2:0<1:=by decide
  refine kQ (k_cut 77 [] (fun sl W=>∃A17:Option Addr,∃c17:Nat,∃gk:Nat,∃gm:Nat,∃gw:Nat,sl=[]∧St nT w W [Fact.row 76 66 (.slice (some ⟨g8,0,none⟩) 3 c8) 3 (bC zHd A5 0 c5++(bC zHd A6 1 c6++bC zHd (some ⟨g9,0,none⟩) 1 c3)),Fact.rep (RL 3 RTx) S5 [.slice A5 0 c5] [],Fact.rep (RL 3 RTx) S6 [.slice A6 1 c6] [Ex.t],Fact.row 47 3 (.slice (some ⟨g9,0,none⟩) 1 c3) 1 (txC (some ⟨gI,0,none⟩) Ex.u.ins.length ci Bi Ex.u.outs.length di Ex.u.lock),Fact.row 71 34 (.slice (some ⟨gI,0,none⟩) Ex.u.ins.length ci) Ex.u.ins.length (inC Ex.pt (some ⟨gw,0,none⟩) 5 5),Fact.blk gw [Value.slice (some ⟨gx,0,none⟩) 31 32,.slice A17 (Ex.x.length+1) c17,.slice none 0 0,.slice (some ⟨gx,0,none⟩) 32 32,.slice (some ⟨gm,0,none⟩) 32 32] 23,Fact.blk gm ((List.replicate 32 (0:UInt8)).map u8v) 5,Fact.row 5 1 (.slice A17 (Ex.x.length+1) c17) (Ex.x.length+1) (Ex.x.map u8v++[.int .u8 0]),Fact.blk gx (Ex.x.map u8v) 25,Fact.row 41 2 (.slice Bi Ex.u.outs.length di) Ex.u.outs.length ys,Fact.els ROut 2 S1 ys Ex.u.outs,Fact.els RIn 34 S0 (inC Ex.pt Aw 2 cw) Ex.u.ins,Fact.blk gk [.int .u8 0] 5,Fact.blk gh ((Old.Bl.sum Ex.x).map u8v) 25,Fact.blk gt (txC (some ⟨gi,0,none⟩) 1 1 (some ⟨go,0,none⟩) 2 2 0) 47,Fact.ex S gc gi go]) ?_ (fun sl ρv W hJ=>?_))
  ·skip
   refine k_drawT (.rd 0 (.rd 1 (.rd 2 (.rd 3 (.rd 4 (.rd 5 (.rd 6 (.rd 7 (.rd 8 (.rd 12 (.many 7 [9,10,13] fun j=>(bif Nat.beq j 9 then (.many 6 [10,13] fun j=>(bif Nat.beq j 10 then (.many 5 [11,13] fun j=>(bif Nat.beq j 11 then (.ef 13 (.ef 14 (.rd 15 (.rd 16 (.ef 17 .nil))))) else (.ef 11 (.ef 14 (.rd 15 (.rd 16 (.ef 17 .nil))))))) else (.ef 10 (.ef 11 (.ef 14 (.rd 15 (.rd 16 (.ef 17 .nil)))))))) else (bif Nat.beq j 10 then (.many 6 [9,13] fun j=>(bif Nat.beq j 9 then (.many 5 [11,13] fun j=>(bif Nat.beq j 11 then (.ef 13 (.ef 14 (.rd 15 (.rd 16 (.ef 17 .nil))))) else (.ef 11 (.ef 14 (.rd 15 (.rd 16 (.ef 17 .nil))))))) else (.ef 9 (.ef 11 (.ef 14 (.rd 15 (.rd 16 (.ef 17 .nil)))))))) else (.many 6 [9,10] fun j=>(bif Nat.beq j 9 then (.ef 10 (.ef 11 (.ef 14 (.rd 15 (.rd 16 (.ef 17 .nil)))))) else (.ef 9 (.ef 11 (.ef 14 (.rd 15 (.rd 16 (.ef 17 .nil))))))))))))))))))))) [Fact.row 76 66 (.slice (some ⟨g8,0,none⟩) 3 c8) 3 (bC zHd A5 0 c5++(bC zHd A6 1 c6++bC zHd (some ⟨g9,0,none⟩) 1 c3)),Fact.row 47 3 (.slice (some ⟨g9,0,none⟩) 1 c3) 1 (txC (some ⟨gI,0,none⟩) Ex.u.ins.length ci Bi Ex.u.outs.length di Ex.u.lock)] (by kernel_rfl) (by kernel_rfl) H (by repeat (first|exact .refl _|exact List.nil_sublist _|refine .cons_cons _ ?_|refine .cons _ ?_)) ?_
   clear H;intro W H
   refine tR U (fun W H=>mv_s U U) (tR U (fun W H=>dG U ((Rd.of_own (H.get (f:=Fact.row 76 66 (.slice (some ⟨g8,0,none⟩) 3 c8) 3 (bC zHd A5 0 c5++(bC zHd A6 1 c6++bC zHd (some ⟨g9,0,none⟩) 1 c3)))))) U U (q:=2) U hl1 tu22 ts76) (tR U (fun W H=>dF U U tf76_1) (tR U (fun W H=>dE (off:=65) U ((Rd.of_own (H.get (f:=Fact.row 76 66 (.slice (some ⟨g8,0,none⟩) 3 c8) 3 (bC zHd A5 0 c5++(bC zHd A6 1 c6++bC zHd (some ⟨g9,0,none⟩) 1 c3)))))) hl1 hLx (sub_b_txs zHd_ok) U U (by omega) ta74) (tR U (fun W H=>dG U ((Rd.of_own (H.get (f:=Fact.row 47 3 (.slice (some ⟨g9,0,none⟩) 1 c3) 1 (txC (some ⟨gI,0,none⟩) Ex.u.ins.length ci Bi Ex.u.outs.length di Ex.u.lock))))) U U (q:=0) U hl2 tu74 ts47) (tR U (fun W H=>dF U U tf47_0) (tR U (fun W H=>dE (off:=0) U ((Rd.of_own (H.get (f:=Fact.row 47 3 (.slice (some ⟨g9,0,none⟩) 1 c3) 1 (txC (some ⟨gI,0,none⟩) Ex.u.ins.length ci Bi Ex.u.outs.length di Ex.u.lock))))) hl2 hLt U U U (by omega) ta44) (tR U (fun W H=>d_arrP U U U (h:=31) U tu25 (by omega) ts5) (tR U (fun W H=>d_arrA U U tu25 ts5) (tR U (fun W H=>d_arrA U U tu25 ts5) (t_each ?_ ?_))))))))))
   ·skip
    refine tf U (eN Tryz.func28 U U (copyBytes _ Ex.x _ (Wt.blk_bs (S:=fun _=>True) (H.blk (g:=gx)) U trivial Ex.len_x (by decide)) (by rw [Ex.len_x];decide)) H ?_)
    clear H;intro A16 c16 W hc16 hd16 H
    refine ⟨_,fun _ h=>h,H.sb,?_⟩
    refine t_each ?_ ?_
    ·skip
     refine tf U (ebs (xs:=[.const (.int .u8 0)]) (vals:=[.int .u8 _]) (vs:=[.int .u8 _]) U U U U tu23 ts5 ty5 U U U H ?_)
     clear H;intro gk W H
     refine ⟨_,fun _ h=>h,H.sb,?_⟩
     refine t_each ?_ ?_
     ·skip
      refine tf U (eap tu23 tx5 U U U H (rd_blk (m:=1) (H.blk (g:=gk)) U) (U) (by rw [Ex.len_x];decide) U ?_)
      clear H;intro A17 c17 W hc17 hd17 H
      refine ⟨_,fun _ h=>h,H.sb,?_⟩
      refine tf U (e_mks (wn U) U U U U (m:=32) U (by decide) tu23 tz5 tx5 H ?_)
      clear H;intro gm W H
      refine ⟨_,fun _ h=>h,H.sb,?_⟩
      refine tf U (ebs (xs:=[.tmp 84,.tmp 88,.const (.slice none 0 0),.tmp 89,.tmp 90]) (vals:=[Value.slice (some ⟨gx,0,none⟩) 31 32,.slice A17 (Ex.x.length+1) c17,.slice none 0 0,.slice (some ⟨gx,0,none⟩) 32 32,.slice (some ⟨gm,0,none⟩) 32 32]) (vs:=[Value.slice (some ⟨gx,0,none⟩) 31 32,.slice A17 (Ex.x.length+1) c17,.slice none 0 0,.slice (some ⟨gx,0,none⟩) 32 32,.slice (some ⟨gm,0,none⟩) 32 32]) U U U U tu66 ts23 ty23 U U U H ?_)
      clear H;intro gw W H
      refine ⟨_,fun _ h=>h,H.sb,?_⟩
      refine tR U (fun W H=>d_iaP (q:=0) U U U U (by decide) tu44 ts71) (tR U (fun W H=>dF U U tf71_1) (tf U (e_stoG (v:=.slice (some ⟨gw,0,none⟩) 5 5) (k:=0*34+33) (s:=34) (e:=71) (m:=Ex.u.ins.length) (c:=ci) (wn U) U U U U U U ts66 U H (by decide) ?_)))
      clear H;intro W H
      refine ⟨_,fun _ h=>h,H.sb,?_⟩
      refine t_nil (kn (n_then ?_))
      rw [set_in_w Ex.len_pt] at H
      refine ⟨_,_,U,?_,?_,⟨A17,c17,gk,gm,gw,U,H.pm⟩⟩
      ·with_reducible repeat first|exact .refl|refine .f ?_ ?_ ?_;kernel_rfl;kernel_rfl|refine .u ?_ ?_;kernel_rfl
      ·exact trivial
     refine t_each ?_ ?_
     ·skip
      refine tf U (e_mks (wn U) U U U U (m:=32) U (by decide) tu23 tz5 tx5 H ?_)
      clear H;intro gm W H
      refine ⟨_,fun _ h=>h,H.sb,?_⟩
      refine tf U (eap tu23 tx5 U U U H (rd_blk (m:=1) (H.blk (g:=gk)) U) (U) (by rw [Ex.len_x];decide) U ?_)
      clear H;intro A17 c17 W hc17 hd17 H
      refine ⟨_,fun _ h=>h,H.sb,?_⟩
      refine tf U (ebs (xs:=[.tmp 84,.tmp 88,.const (.slice none 0 0),.tmp 89,.tmp 90]) (vals:=[Value.slice (some ⟨gx,0,none⟩) 31 32,.slice A17 (Ex.x.length+1) c17,.slice none 0 0,.slice (some ⟨gx,0,none⟩) 32 32,.slice (some ⟨gm,0,none⟩) 32 32]) (vs:=[Value.slice (some ⟨gx,0,none⟩) 31 32,.slice A17 (Ex.x.length+1) c17,.slice none 0 0,.slice (some ⟨gx,0,none⟩) 32 32,.slice (some ⟨gm,0,none⟩) 32 32]) U U U U tu66 ts23 ty23 U U U H ?_)
      clear H;intro gw W H
      refine ⟨_,fun _ h=>h,H.sb,?_⟩
      refine tR U (fun W H=>d_iaP (q:=0) U U U U (by decide) tu44 ts71) (tR U (fun W H=>dF U U tf71_1) (tf U (e_stoG (v:=.slice (some ⟨gw,0,none⟩) 5 5) (k:=0*34+33) (s:=34) (e:=71) (m:=Ex.u.ins.length) (c:=ci) (wn U) U U U U U U ts66 U H (by decide) ?_)))
      clear H;intro W H
      refine ⟨_,fun _ h=>h,H.sb,?_⟩
      refine t_nil (kn (n_then ?_))
      rw [set_in_w Ex.len_pt] at H
      refine ⟨_,_,U,?_,?_,⟨A17,c17,gk,gm,gw,U,H.pm⟩⟩
      ·with_reducible repeat first|exact .refl|refine .f ?_ ?_ ?_;kernel_rfl;kernel_rfl|refine .u ?_ ?_;kernel_rfl
      ·exact trivial
     exact t_none
    refine t_each ?_ ?_
    ·skip
     refine tf U (e_mks (wn U) U U U U (m:=32) U (by decide) tu23 tz5 tx5 H ?_)
     clear H;intro gm W H
     refine ⟨_,fun _ h=>h,H.sb,?_⟩
     refine tf U (ebs (xs:=[.const (.int .u8 0)]) (vals:=[.int .u8 _]) (vs:=[.int .u8 _]) U U U U tu23 ts5 ty5 U U U H ?_)
     clear H;intro gk W H
     refine ⟨_,fun _ h=>h,H.sb,?_⟩
     refine tf U (eap tu23 tx5 U U U H (rd_blk (m:=1) (H.blk (g:=gk)) U) (U) (by rw [Ex.len_x];decide) U ?_)
     clear H;intro A17 c17 W hc17 hd17 H
     refine ⟨_,fun _ h=>h,H.sb,?_⟩
     refine tf U (ebs (xs:=[.tmp 84,.tmp 88,.const (.slice none 0 0),.tmp 89,.tmp 90]) (vals:=[Value.slice (some ⟨gx,0,none⟩) 31 32,.slice A17 (Ex.x.length+1) c17,.slice none 0 0,.slice (some ⟨gx,0,none⟩) 32 32,.slice (some ⟨gm,0,none⟩) 32 32]) (vs:=[Value.slice (some ⟨gx,0,none⟩) 31 32,.slice A17 (Ex.x.length+1) c17,.slice none 0 0,.slice (some ⟨gx,0,none⟩) 32 32,.slice (some ⟨gm,0,none⟩) 32 32]) U U U U tu66 ts23 ty23 U U U H ?_)
     clear H;intro gw W H
     refine ⟨_,fun _ h=>h,H.sb,?_⟩
     refine tR U (fun W H=>d_iaP (q:=0) U U U U (by decide) tu44 ts71) (tR U (fun W H=>dF U U tf71_1) (tf U (e_stoG (v:=.slice (some ⟨gw,0,none⟩) 5 5) (k:=0*34+33) (s:=34) (e:=71) (m:=Ex.u.ins.length) (c:=ci) (wn U) U U U U U U ts66 U H (by decide) ?_)))
     clear H;intro W H
     refine ⟨_,fun _ h=>h,H.sb,?_⟩
     refine t_nil (kn (n_then ?_))
     rw [set_in_w Ex.len_pt] at H
     refine ⟨_,_,U,?_,?_,⟨A17,c17,gk,gm,gw,U,H.pm⟩⟩
     ·with_reducible repeat first|exact .refl|refine .f ?_ ?_ ?_;kernel_rfl;kernel_rfl|refine .u ?_ ?_;kernel_rfl
     ·exact trivial
    exact t_none
   refine t_each ?_ ?_
   ·skip
    refine tf U (ebs (xs:=[.const (.int .u8 0)]) (vals:=[.int .u8 _]) (vs:=[.int .u8 _]) U U U U tu23 ts5 ty5 U U U H ?_)
    clear H;intro gk W H
    refine ⟨_,fun _ h=>h,H.sb,?_⟩
    refine t_each ?_ ?_
    ·skip
     refine tf U (eN Tryz.func28 U U (copyBytes _ Ex.x _ (Wt.blk_bs (S:=fun _=>True) (H.blk (g:=gx)) U trivial Ex.len_x (by decide)) (by rw [Ex.len_x];decide)) H ?_)
     clear H;intro A16 c16 W hc16 hd16 H
     refine ⟨_,fun _ h=>h,H.sb,?_⟩
     refine t_each ?_ ?_
     ·skip
      refine tf U (eap tu23 tx5 U U U H (rd_blk (m:=1) (H.blk (g:=gk)) U) (U) (by rw [Ex.len_x];decide) U ?_)
      clear H;intro A17 c17 W hc17 hd17 H
      refine ⟨_,fun _ h=>h,H.sb,?_⟩
      refine tf U (e_mks (wn U) U U U U (m:=32) U (by decide) tu23 tz5 tx5 H ?_)
      clear H;intro gm W H
      refine ⟨_,fun _ h=>h,H.sb,?_⟩
      refine tf U (ebs (xs:=[.tmp 84,.tmp 88,.const (.slice none 0 0),.tmp 89,.tmp 90]) (vals:=[Value.slice (some ⟨gx,0,none⟩) 31 32,.slice A17 (Ex.x.length+1) c17,.slice none 0 0,.slice (some ⟨gx,0,none⟩) 32 32,.slice (some ⟨gm,0,none⟩) 32 32]) (vs:=[Value.slice (some ⟨gx,0,none⟩) 31 32,.slice A17 (Ex.x.length+1) c17,.slice none 0 0,.slice (some ⟨gx,0,none⟩) 32 32,.slice (some ⟨gm,0,none⟩) 32 32]) U U U U tu66 ts23 ty23 U U U H ?_)
      clear H;intro gw W H
      refine ⟨_,fun _ h=>h,H.sb,?_⟩
      refine tR U (fun W H=>d_iaP (q:=0) U U U U (by decide) tu44 ts71) (tR U (fun W H=>dF U U tf71_1) (tf U (e_stoG (v:=.slice (some ⟨gw,0,none⟩) 5 5) (k:=0*34+33) (s:=34) (e:=71) (m:=Ex.u.ins.length) (c:=ci) (wn U) U U U U U U ts66 U H (by decide) ?_)))
      clear H;intro W H
      refine ⟨_,fun _ h=>h,H.sb,?_⟩
      refine t_nil (kn (n_then ?_))
      rw [set_in_w Ex.len_pt] at H
      refine ⟨_,_,U,?_,?_,⟨A17,c17,gk,gm,gw,U,H.pm⟩⟩
      ·with_reducible repeat first|exact .refl|refine .f ?_ ?_ ?_;kernel_rfl;kernel_rfl|refine .u ?_ ?_;kernel_rfl
      ·exact trivial
     refine t_each ?_ ?_
     ·skip
      refine tf U (e_mks (wn U) U U U U (m:=32) U (by decide) tu23 tz5 tx5 H ?_)
      clear H;intro gm W H
      refine ⟨_,fun _ h=>h,H.sb,?_⟩
      refine tf U (eap tu23 tx5 U U U H (rd_blk (m:=1) (H.blk (g:=gk)) U) (U) (by rw [Ex.len_x];decide) U ?_)
      clear H;intro A17 c17 W hc17 hd17 H
      refine ⟨_,fun _ h=>h,H.sb,?_⟩
      refine tf U (ebs (xs:=[.tmp 84,.tmp 88,.const (.slice none 0 0),.tmp 89,.tmp 90]) (vals:=[Value.slice (some ⟨gx,0,none⟩) 31 32,.slice A17 (Ex.x.length+1) c17,.slice none 0 0,.slice (some ⟨gx,0,none⟩) 32 32,.slice (some ⟨gm,0,none⟩) 32 32]) (vs:=[Value.slice (some ⟨gx,0,none⟩) 31 32,.slice A17 (Ex.x.length+1) c17,.slice none 0 0,.slice (some ⟨gx,0,none⟩) 32 32,.slice (some ⟨gm,0,none⟩) 32 32]) U U U U tu66 ts23 ty23 U U U H ?_)
      clear H;intro gw W H
      refine ⟨_,fun _ h=>h,H.sb,?_⟩
      refine tR U (fun W H=>d_iaP (q:=0) U U U U (by decide) tu44 ts71) (tR U (fun W H=>dF U U tf71_1) (tf U (e_stoG (v:=.slice (some ⟨gw,0,none⟩) 5 5) (k:=0*34+33) (s:=34) (e:=71) (m:=Ex.u.ins.length) (c:=ci) (wn U) U U U U U U ts66 U H (by decide) ?_)))
      clear H;intro W H
      refine ⟨_,fun _ h=>h,H.sb,?_⟩
      refine t_nil (kn (n_then ?_))
      rw [set_in_w Ex.len_pt] at H
      refine ⟨_,_,U,?_,?_,⟨A17,c17,gk,gm,gw,U,H.pm⟩⟩
      ·with_reducible repeat first|exact .refl|refine .f ?_ ?_ ?_;kernel_rfl;kernel_rfl|refine .u ?_ ?_;kernel_rfl
      ·exact trivial
     exact t_none
    refine t_each ?_ ?_
    ·skip
     refine tf U (e_mks (wn U) U U U U (m:=32) U (by decide) tu23 tz5 tx5 H ?_)
     clear H;intro gm W H
     refine ⟨_,fun _ h=>h,H.sb,?_⟩
     refine tf U (eN Tryz.func28 U U (copyBytes _ Ex.x _ (Wt.blk_bs (S:=fun _=>True) (H.blk (g:=gx)) U trivial Ex.len_x (by decide)) (by rw [Ex.len_x];decide)) H ?_)
     clear H;intro A16 c16 W hc16 hd16 H
     refine ⟨_,fun _ h=>h,H.sb,?_⟩
     refine tf U (eap tu23 tx5 U U U H (rd_blk (m:=1) (H.blk (g:=gk)) U) (U) (by rw [Ex.len_x];decide) U ?_)
     clear H;intro A17 c17 W hc17 hd17 H
     refine ⟨_,fun _ h=>h,H.sb,?_⟩
     refine tf U (ebs (xs:=[.tmp 84,.tmp 88,.const (.slice none 0 0),.tmp 89,.tmp 90]) (vals:=[Value.slice (some ⟨gx,0,none⟩) 31 32,.slice A17 (Ex.x.length+1) c17,.slice none 0 0,.slice (some ⟨gx,0,none⟩) 32 32,.slice (some ⟨gm,0,none⟩) 32 32]) (vs:=[Value.slice (some ⟨gx,0,none⟩) 31 32,.slice A17 (Ex.x.length+1) c17,.slice none 0 0,.slice (some ⟨gx,0,none⟩) 32 32,.slice (some ⟨gm,0,none⟩) 32 32]) U U U U tu66 ts23 ty23 U U U H ?_)
     clear H;intro gw W H
     refine ⟨_,fun _ h=>h,H.sb,?_⟩
     refine tR U (fun W H=>d_iaP (q:=0) U U U U (by decide) tu44 ts71) (tR U (fun W H=>dF U U tf71_1) (tf U (e_stoG (v:=.slice (some ⟨gw,0,none⟩) 5 5) (k:=0*34+33) (s:=34) (e:=71) (m:=Ex.u.ins.length) (c:=ci) (wn U) U U U U U U ts66 U H (by decide) ?_)))
     clear H;intro W H
     refine ⟨_,fun _ h=>h,H.sb,?_⟩
     refine t_nil (kn (n_then ?_))
     rw [set_in_w Ex.len_pt] at H
     refine ⟨_,_,U,?_,?_,⟨A17,c17,gk,gm,gw,U,H.pm⟩⟩
     ·with_reducible repeat first|exact .refl|refine .f ?_ ?_ ?_;kernel_rfl;kernel_rfl|refine .u ?_ ?_;kernel_rfl
     ·exact trivial
    exact t_none
   refine t_each ?_ ?_
   ·skip
    refine tf U (e_mks (wn U) U U U U (m:=32) U (by decide) tu23 tz5 tx5 H ?_)
    clear H;intro gm W H
    refine ⟨_,fun _ h=>h,H.sb,?_⟩
    refine t_each ?_ ?_
    ·skip
     refine tf U (eN Tryz.func28 U U (copyBytes _ Ex.x _ (Wt.blk_bs (S:=fun _=>True) (H.blk (g:=gx)) U trivial Ex.len_x (by decide)) (by rw [Ex.len_x];decide)) H ?_)
     clear H;intro A16 c16 W hc16 hd16 H
     refine ⟨_,fun _ h=>h,H.sb,?_⟩
     refine tf U (ebs (xs:=[.const (.int .u8 0)]) (vals:=[.int .u8 _]) (vs:=[.int .u8 _]) U U U U tu23 ts5 ty5 U U U H ?_)
     clear H;intro gk W H
     refine ⟨_,fun _ h=>h,H.sb,?_⟩
     refine tf U (eap tu23 tx5 U U U H (rd_blk (m:=1) (H.blk (g:=gk)) U) (U) (by rw [Ex.len_x];decide) U ?_)
     clear H;intro A17 c17 W hc17 hd17 H
     refine ⟨_,fun _ h=>h,H.sb,?_⟩
     refine tf U (ebs (xs:=[.tmp 84,.tmp 88,.const (.slice none 0 0),.tmp 89,.tmp 90]) (vals:=[Value.slice (some ⟨gx,0,none⟩) 31 32,.slice A17 (Ex.x.length+1) c17,.slice none 0 0,.slice (some ⟨gx,0,none⟩) 32 32,.slice (some ⟨gm,0,none⟩) 32 32]) (vs:=[Value.slice (some ⟨gx,0,none⟩) 31 32,.slice A17 (Ex.x.length+1) c17,.slice none 0 0,.slice (some ⟨gx,0,none⟩) 32 32,.slice (some ⟨gm,0,none⟩) 32 32]) U U U U tu66 ts23 ty23 U U U H ?_)
     clear H;intro gw W H
     refine ⟨_,fun _ h=>h,H.sb,?_⟩
     refine tR U (fun W H=>d_iaP (q:=0) U U U U (by decide) tu44 ts71) (tR U (fun W H=>dF U U tf71_1) (tf U (e_stoG (v:=.slice (some ⟨gw,0,none⟩) 5 5) (k:=0*34+33) (s:=34) (e:=71) (m:=Ex.u.ins.length) (c:=ci) (wn U) U U U U U U ts66 U H (by decide) ?_)))
     clear H;intro W H
     refine ⟨_,fun _ h=>h,H.sb,?_⟩
     refine t_nil (kn (n_then ?_))
     rw [set_in_w Ex.len_pt] at H
     refine ⟨_,_,U,?_,?_,⟨A17,c17,gk,gm,gw,U,H.pm⟩⟩
     ·with_reducible repeat first|exact .refl|refine .f ?_ ?_ ?_;kernel_rfl;kernel_rfl|refine .u ?_ ?_;kernel_rfl
     ·exact trivial
    refine t_each ?_ ?_
    ·skip
     refine tf U (ebs (xs:=[.const (.int .u8 0)]) (vals:=[.int .u8 _]) (vs:=[.int .u8 _]) U U U U tu23 ts5 ty5 U U U H ?_)
     clear H;intro gk W H
     refine ⟨_,fun _ h=>h,H.sb,?_⟩
     refine tf U (eN Tryz.func28 U U (copyBytes _ Ex.x _ (Wt.blk_bs (S:=fun _=>True) (H.blk (g:=gx)) U trivial Ex.len_x (by decide)) (by rw [Ex.len_x];decide)) H ?_)
     clear H;intro A16 c16 W hc16 hd16 H
     refine ⟨_,fun _ h=>h,H.sb,?_⟩
     refine tf U (eap tu23 tx5 U U U H (rd_blk (m:=1) (H.blk (g:=gk)) U) (U) (by rw [Ex.len_x];decide) U ?_)
     clear H;intro A17 c17 W hc17 hd17 H
     refine ⟨_,fun _ h=>h,H.sb,?_⟩
     refine tf U (ebs (xs:=[.tmp 84,.tmp 88,.const (.slice none 0 0),.tmp 89,.tmp 90]) (vals:=[Value.slice (some ⟨gx,0,none⟩) 31 32,.slice A17 (Ex.x.length+1) c17,.slice none 0 0,.slice (some ⟨gx,0,none⟩) 32 32,.slice (some ⟨gm,0,none⟩) 32 32]) (vs:=[Value.slice (some ⟨gx,0,none⟩) 31 32,.slice A17 (Ex.x.length+1) c17,.slice none 0 0,.slice (some ⟨gx,0,none⟩) 32 32,.slice (some ⟨gm,0,none⟩) 32 32]) U U U U tu66 ts23 ty23 U U U H ?_)
     clear H;intro gw W H
     refine ⟨_,fun _ h=>h,H.sb,?_⟩
     refine tR U (fun W H=>d_iaP (q:=0) U U U U (by decide) tu44 ts71) (tR U (fun W H=>dF U U tf71_1) (tf U (e_stoG (v:=.slice (some ⟨gw,0,none⟩) 5 5) (k:=0*34+33) (s:=34) (e:=71) (m:=Ex.u.ins.length) (c:=ci) (wn U) U U U U U U ts66 U H (by decide) ?_)))
     clear H;intro W H
     refine ⟨_,fun _ h=>h,H.sb,?_⟩
     refine t_nil (kn (n_then ?_))
     rw [set_in_w Ex.len_pt] at H
     refine ⟨_,_,U,?_,?_,⟨A17,c17,gk,gm,gw,U,H.pm⟩⟩
     ·with_reducible repeat first|exact .refl|refine .f ?_ ?_ ?_;kernel_rfl;kernel_rfl|refine .u ?_ ?_;kernel_rfl
     ·exact trivial
    exact t_none
   exact t_none
  clear H;obtain ⟨A17,c17,gk,gm,gw,rfl,H⟩:=hJ
  obtain ⟨SU,Hu⟩:=Ex.ux H
  replace H:St nT w W [Fact.ex S gc gi go,Fact.rep (RL 66 RBlock) SU [.slice (some ⟨g8,0,none⟩) 3 c8] Ex.path2,Fact.blk gh ((Old.Bl.sum Ex.x).map u8v) 25,Fact.blk gt (txC (some ⟨gi,0,none⟩) 1 1 (some ⟨go,0,none⟩) 2 2 0) 47]:=(Hu.sub (L':=[Fact.rep (RL 66 RBlock) SU [.slice (some ⟨g8,0,none⟩) 3 c8] Ex.path2,Fact.blk gh ((Old.Bl.sum Ex.x).map u8v) 25,Fact.blk gt (txC (some ⟨gi,0,none⟩) 1 1 (some ⟨go,0,none⟩) 2 2 0) 47,Fact.ex S gc gi go]) (by repeat (first|exact .refl _|exact List.nil_sublist _|refine .cons_cons _ ?_|refine .cons _ ?_))).pm
  clear Hu
  obtain ⟨yp,hyl,hyo,Hy⟩:=H.exY
  clear H
  have H:=Hy
  clear Hy
  refine kR (sMs U (sf (ecl Tryz.func7 U U (copyBlocks (l:=Ex.path2) _ (H.rep1 (R:=RL 66 RBlock) (S:=SU) (cs:=[.slice (some ⟨g8,0,none⟩) 3 c8]) (a:=Ex.path2)) (by decide) Ex.fits2) ?_)))
  rintro _ W ⟨A18,c18,zs,S3,rfl,hc18,hn3⟩
  replace H:=H.add2 hn3
  clear hn3
  refine sMs U (sf (eap tu22 tx76 U U U H ((H.get (f:=Fact.exY S gc gi go yp)).1.1) (hyo) (by decide) U ?_))
  clear H;intro A19 c19 W hc19 hd19 H
  refine sAs U (ln ?_)
  replace H:St nT w W [Fact.row 76 66 (.slice A19 (Ex.path2++Ex.path).length c19) (Ex.path2++Ex.path).length (zs++yp),Fact.els RBlock 66 S3 zs Ex.path2,Fact.exY S gc gi go yp,Fact.rep (RL 66 RBlock) SU [.slice (some ⟨g8,0,none⟩) 3 c8] Ex.path2,Fact.blk gh ((Old.Bl.sum Ex.x).map u8v) 25,Fact.blk gt (txC (some ⟨gi,0,none⟩) 1 1 (some ⟨go,0,none⟩) 2 2 0) 47]:=H
  replace hc19:(Ex.path2++Ex.path).length<=c19:=hc19
  refine kQ (k_cut 98 [10] (fun sl W=>∃gs:Nat,∃gq:Nat,sl=[(10,.pointer (some ⟨gq,0,none⟩))]∧St nT w W [Fact.blk gq (qC (some ⟨gs,0,none⟩) 2 2 Ex.pt (Old.Bl.sum Ex.x) (Tx.dig Tx.tTx Ex.t)) 29,Fact.blk gs [.int .u8 5,.int .u8 6] 5,Fact.row 76 66 (.slice A19 (Ex.path2++Ex.path).length c19) (Ex.path2++Ex.path).length (zs++yp),Fact.els RBlock 66 S3 zs Ex.path2,Fact.exY S gc gi go yp,Fact.rep (RL 66 RBlock) SU [.slice (some ⟨g8,0,none⟩) 3 c8] Ex.path2,Fact.blk gh ((Old.Bl.sum Ex.x).map u8v) 25,Fact.blk gt (txC (some ⟨gi,0,none⟩) 1 1 (some ⟨go,0,none⟩) 2 2 0) 47]) ?_ (fun sl ρv W hJ=>?_))
  ·skip
   refine k_drawT (.rd 1 (.rd 4 (.rd 5 (.many 6 [0,2,8] fun j=>(bif Nat.beq j 0 then (.many 5 [2,8] fun j=>(bif Nat.beq j 2 then (.rd 3 (.many 3 [6,8] fun j=>(bif Nat.beq j 6 then (.rd 7 (.ef 8 (.ef 9 .nil))) else (.ef 6 (.rd 7 (.ef 9 .nil)))))) else (.ef 2 (.rd 3 (.ef 6 (.rd 7 (.ef 9 .nil))))))) else (bif Nat.beq j 2 then (.rd 3 (.many 4 [0,6,8] fun j=>(bif Nat.beq j 0 then (.many 3 [6,8] fun j=>(bif Nat.beq j 6 then (.rd 7 (.ef 8 (.ef 9 .nil))) else (.ef 6 (.rd 7 (.ef 9 .nil))))) else (bif Nat.beq j 6 then (.many 3 [0,8] fun j=>(bif Nat.beq j 0 then (.rd 7 (.ef 8 (.ef 9 .nil))) else (.ef 0 (.rd 7 (.ef 9 .nil))))) else (.many 3 [0,6] fun j=>(bif Nat.beq j 0 then (.ef 6 (.rd 7 (.ef 9 .nil))) else (.ef 0 (.rd 7 (.ef 9 .nil))))))))) else (.many 5 [0,2] fun j=>(bif Nat.beq j 0 then (.ef 2 (.rd 3 (.ef 6 (.rd 7 (.ef 9 .nil))))) else (.rd 3 (.many 3 [0,6] fun j=>(bif Nat.beq j 0 then (.ef 6 (.rd 7 (.ef 9 .nil))) else (.ef 0 (.rd 7 (.ef 9 .nil)))))))))))))) [Fact.row 76 66 (.slice A19 (Ex.path2++Ex.path).length c19) (Ex.path2++Ex.path).length (zs++yp),Fact.els RBlock 66 S3 zs Ex.path2,Fact.exY S gc gi go yp,Fact.rep (RL 66 RBlock) SU [.slice (some ⟨g8,0,none⟩) 3 c8] Ex.path2,Fact.blk gh ((Old.Bl.sum Ex.x).map u8v) 25,Fact.blk gt (txC (some ⟨gi,0,none⟩) 1 1 (some ⟨go,0,none⟩) 2 2 0) 47] (by kernel_rfl) (by kernel_rfl) H (.refl _) ?_
   clear H;intro W H
   refine tR U (fun W H=>dM (g:=gt) (off:=0) U H (sa (a:=txC (some ⟨gi,0,none⟩) 1 1 (some ⟨go,0,none⟩) 2 2 0) (m:=3) U) U U U U ta47 ts47) (tR U (fun W H=>d_ldm0 (g:=gh) U H U ta25 ts25 (by rw [List.length_map];exact Old.Bl.len_sum _)) ?_)
   refine tR U (fun W H=>dM (g:=gt) (off:=0) U H (sa (a:=txC (some ⟨gi,0,none⟩) 1 1 (some ⟨go,0,none⟩) 2 2 0) (m:=3) U) U U U U ta47 ts47) (t_each ?_ ?_)
   ·skip
    refine tf U (ebs (xs:=[.const (.int .u8 5),.const (.int .u8 6)]) (vals:=[.int .u8 _,.int .u8 _]) (vs:=[.int .u8 _,.int .u8 _]) U U U U tu23 ts5 ty5 U U U H ?_)
    clear H;intro gs W H
    refine ⟨_,fun _ h=>h,H.sb,?_⟩
    refine t_each ?_ ?_
    ·skip
     refine tf U (eI Tryz.func25 U U (idTP _ (H.get (f:=Fact.exY S gc gi go yp)).2 (H.gat hG) (H.gl hB)) H ?_)
     clear H;intro W H
     refine ⟨_,fun _ h=>h,H.sb,?_⟩
     refine tR U (fun W H=>b_xpt Tx.len_dig U U) (t_each ?_ ?_)
     ·skip
      refine tf U (eI Tryz.func25 U U (idTP _ (H.get (f:=Fact.exY S gc gi go yp)).2 (H.gat hG) (H.gl hB)) H ?_)
      clear H;intro W H
      refine ⟨_,fun _ h=>h,H.sb,?_⟩
      refine tR U (fun W H=>b_xq (pt:=Ex.pt) (h:=(Old.Bl.sum Ex.x)) (id:=(Tx.dig Tx.tTx Ex.t)) Ex.len_pt (Old.Bl.len_sum _) Tx.len_dig U U U U U) (tf U (eal (qC none 0 0 zPt (List.replicate 32 0) (List.replicate 32 0)) tz_q H ?_))
      clear H;intro gq W H
      refine ⟨_,fun _ h=>h,H.sb,?_⟩
      refine tf U (esk (qC (some ⟨gs,0,none⟩) 2 2 Ex.pt (Old.Bl.sum Ex.x) (Tx.dig Tx.tTx Ex.t)) U U U ts29 (len_qC Ex.len_pt (Old.Bl.len_sum _) Tx.len_dig) qC_one H (by rw [len_qC List.length_replicate List.length_replicate List.length_replicate];decide) (spl_all ((len_qC Ex.len_pt (Old.Bl.len_sum _) Tx.len_dig).trans (len_qC List.length_replicate List.length_replicate List.length_replicate).symm)) ?_)
      clear H;intro W H
      refine ⟨_,fun _ h=>h,H.sb,?_⟩
      refine t_nil (kn (n_then ?_))
      refine ⟨_,_,U,?_,?_,⟨gs,gq,U,H.pm⟩⟩
      ·with_reducible repeat first|exact .refl|refine .f ?_ ?_ ?_;kernel_rfl;kernel_rfl|refine .u ?_ ?_;kernel_rfl
      ·refine ⟨?_,trivial⟩
       ·exact U
     refine t_each ?_ ?_
     ·skip
      refine tf U (eal (qC none 0 0 zPt (List.replicate 32 0) (List.replicate 32 0)) tz_q H ?_)
      clear H;intro gq W H
      refine ⟨_,fun _ h=>h,H.sb,?_⟩
      refine tf U (eI Tryz.func25 U U (idTP _ (H.get (f:=Fact.exY S gc gi go yp)).2 (H.gat hG) (H.gl hB)) H ?_)
      clear H;intro W H
      refine ⟨_,fun _ h=>h,H.sb,?_⟩
      refine tR U (fun W H=>b_xq (pt:=Ex.pt) (h:=(Old.Bl.sum Ex.x)) (id:=(Tx.dig Tx.tTx Ex.t)) Ex.len_pt (Old.Bl.len_sum _) Tx.len_dig U U U U U) (tf U (esk (qC (some ⟨gs,0,none⟩) 2 2 Ex.pt (Old.Bl.sum Ex.x) (Tx.dig Tx.tTx Ex.t)) U U U ts29 (len_qC Ex.len_pt (Old.Bl.len_sum _) Tx.len_dig) qC_one H (by rw [len_qC List.length_replicate List.length_replicate List.length_replicate];decide) (spl_all ((len_qC Ex.len_pt (Old.Bl.len_sum _) Tx.len_dig).trans (len_qC List.length_replicate List.length_replicate List.length_replicate).symm)) ?_))
      clear H;intro W H
      refine ⟨_,fun _ h=>h,H.sb,?_⟩
      refine t_nil (kn (n_then ?_))
      refine ⟨_,_,U,?_,?_,⟨gs,gq,U,H.pm⟩⟩
      ·with_reducible repeat first|exact .refl|refine .f ?_ ?_ ?_;kernel_rfl;kernel_rfl|refine .u ?_ ?_;kernel_rfl
      ·refine ⟨?_,trivial⟩
       ·exact U
     exact t_none
    refine t_each ?_ ?_
    ·skip
     refine tf U (eal (qC none 0 0 zPt (List.replicate 32 0) (List.replicate 32 0)) tz_q H ?_)
     clear H;intro gq W H
     refine ⟨_,fun _ h=>h,H.sb,?_⟩
     refine tf U (eI Tryz.func25 U U (idTP _ (H.get (f:=Fact.exY S gc gi go yp)).2 (H.gat hG) (H.gl hB)) H ?_)
     clear H;intro W H
     refine ⟨_,fun _ h=>h,H.sb,?_⟩
     refine tR U (fun W H=>b_xpt Tx.len_dig U U) (tf U (eI Tryz.func25 U U (idTP _ (H.get (f:=Fact.exY S gc gi go yp)).2 (H.gat hG) (H.gl hB)) H ?_))
     clear H;intro W H
     refine ⟨_,fun _ h=>h,H.sb,?_⟩
     refine tR U (fun W H=>b_xq (pt:=Ex.pt) (h:=(Old.Bl.sum Ex.x)) (id:=(Tx.dig Tx.tTx Ex.t)) Ex.len_pt (Old.Bl.len_sum _) Tx.len_dig U U U U U) (tf U (esk (qC (some ⟨gs,0,none⟩) 2 2 Ex.pt (Old.Bl.sum Ex.x) (Tx.dig Tx.tTx Ex.t)) U U U ts29 (len_qC Ex.len_pt (Old.Bl.len_sum _) Tx.len_dig) qC_one H (by rw [len_qC List.length_replicate List.length_replicate List.length_replicate];decide) (spl_all ((len_qC Ex.len_pt (Old.Bl.len_sum _) Tx.len_dig).trans (len_qC List.length_replicate List.length_replicate List.length_replicate).symm)) ?_))
     clear H;intro W H
     refine ⟨_,fun _ h=>h,H.sb,?_⟩
     refine t_nil (kn (n_then ?_))
     refine ⟨_,_,U,?_,?_,⟨gs,gq,U,H.pm⟩⟩
     ·with_reducible repeat first|exact .refl|refine .f ?_ ?_ ?_;kernel_rfl;kernel_rfl|refine .u ?_ ?_;kernel_rfl
     ·refine ⟨?_,trivial⟩
      ·exact U
    exact t_none
   refine t_each ?_ ?_
   ·skip
    refine tf U (eI Tryz.func25 U U (idTP _ (H.get (f:=Fact.exY S gc gi go yp)).2 (H.gat hG) (H.gl hB)) H ?_)
    clear H;intro W H
    refine ⟨_,fun _ h=>h,H.sb,?_⟩
    refine tR U (fun W H=>b_xpt Tx.len_dig U U) (t_each ?_ ?_)
    ·skip
     refine tf U (ebs (xs:=[.const (.int .u8 5),.const (.int .u8 6)]) (vals:=[.int .u8 _,.int .u8 _]) (vs:=[.int .u8 _,.int .u8 _]) U U U U tu23 ts5 ty5 U U U H ?_)
     clear H;intro gs W H
     refine ⟨_,fun _ h=>h,H.sb,?_⟩
     refine t_each ?_ ?_
     ·skip
      refine tf U (eI Tryz.func25 U U (idTP _ (H.get (f:=Fact.exY S gc gi go yp)).2 (H.gat hG) (H.gl hB)) H ?_)
      clear H;intro W H
      refine ⟨_,fun _ h=>h,H.sb,?_⟩
      refine tR U (fun W H=>b_xq (pt:=Ex.pt) (h:=(Old.Bl.sum Ex.x)) (id:=(Tx.dig Tx.tTx Ex.t)) Ex.len_pt (Old.Bl.len_sum _) Tx.len_dig U U U U U) (tf U (eal (qC none 0 0 zPt (List.replicate 32 0) (List.replicate 32 0)) tz_q H ?_))
      clear H;intro gq W H
      refine ⟨_,fun _ h=>h,H.sb,?_⟩
      refine tf U (esk (qC (some ⟨gs,0,none⟩) 2 2 Ex.pt (Old.Bl.sum Ex.x) (Tx.dig Tx.tTx Ex.t)) U U U ts29 (len_qC Ex.len_pt (Old.Bl.len_sum _) Tx.len_dig) qC_one H (by rw [len_qC List.length_replicate List.length_replicate List.length_replicate];decide) (spl_all ((len_qC Ex.len_pt (Old.Bl.len_sum _) Tx.len_dig).trans (len_qC List.length_replicate List.length_replicate List.length_replicate).symm)) ?_)
      clear H;intro W H
      refine ⟨_,fun _ h=>h,H.sb,?_⟩
      refine t_nil (kn (n_then ?_))
      refine ⟨_,_,U,?_,?_,⟨gs,gq,U,H.pm⟩⟩
      ·with_reducible repeat first|exact .refl|refine .f ?_ ?_ ?_;kernel_rfl;kernel_rfl|refine .u ?_ ?_;kernel_rfl
      ·refine ⟨?_,trivial⟩
       ·exact U
     refine t_each ?_ ?_
     ·skip
      refine tf U (eal (qC none 0 0 zPt (List.replicate 32 0) (List.replicate 32 0)) tz_q H ?_)
      clear H;intro gq W H
      refine ⟨_,fun _ h=>h,H.sb,?_⟩
      refine tf U (eI Tryz.func25 U U (idTP _ (H.get (f:=Fact.exY S gc gi go yp)).2 (H.gat hG) (H.gl hB)) H ?_)
      clear H;intro W H
      refine ⟨_,fun _ h=>h,H.sb,?_⟩
      refine tR U (fun W H=>b_xq (pt:=Ex.pt) (h:=(Old.Bl.sum Ex.x)) (id:=(Tx.dig Tx.tTx Ex.t)) Ex.len_pt (Old.Bl.len_sum _) Tx.len_dig U U U U U) (tf U (esk (qC (some ⟨gs,0,none⟩) 2 2 Ex.pt (Old.Bl.sum Ex.x) (Tx.dig Tx.tTx Ex.t)) U U U ts29 (len_qC Ex.len_pt (Old.Bl.len_sum _) Tx.len_dig) qC_one H (by rw [len_qC List.length_replicate List.length_replicate List.length_replicate];decide) (spl_all ((len_qC Ex.len_pt (Old.Bl.len_sum _) Tx.len_dig).trans (len_qC List.length_replicate List.length_replicate List.length_replicate).symm)) ?_))
      clear H;intro W H
      refine ⟨_,fun _ h=>h,H.sb,?_⟩
      refine t_nil (kn (n_then ?_))
      refine ⟨_,_,U,?_,?_,⟨gs,gq,U,H.pm⟩⟩
      ·with_reducible repeat first|exact .refl|refine .f ?_ ?_ ?_;kernel_rfl;kernel_rfl|refine .u ?_ ?_;kernel_rfl
      ·refine ⟨?_,trivial⟩
       ·exact U
     exact t_none
    refine t_each ?_ ?_
    ·skip
     refine tf U (eI Tryz.func25 U U (idTP _ (H.get (f:=Fact.exY S gc gi go yp)).2 (H.gat hG) (H.gl hB)) H ?_)
     clear H;intro W H
     refine ⟨_,fun _ h=>h,H.sb,?_⟩
     refine t_each ?_ ?_
     ·skip
      refine tf U (ebs (xs:=[.const (.int .u8 5),.const (.int .u8 6)]) (vals:=[.int .u8 _,.int .u8 _]) (vs:=[.int .u8 _,.int .u8 _]) U U U U tu23 ts5 ty5 U U U H ?_)
      clear H;intro gs W H
      refine ⟨_,fun _ h=>h,H.sb,?_⟩
      refine tR U (fun W H=>b_xq (pt:=Ex.pt) (h:=(Old.Bl.sum Ex.x)) (id:=(Tx.dig Tx.tTx Ex.t)) Ex.len_pt (Old.Bl.len_sum _) Tx.len_dig U U U U U) (tf U (eal (qC none 0 0 zPt (List.replicate 32 0) (List.replicate 32 0)) tz_q H ?_))
      clear H;intro gq W H
      refine ⟨_,fun _ h=>h,H.sb,?_⟩
      refine tf U (esk (qC (some ⟨gs,0,none⟩) 2 2 Ex.pt (Old.Bl.sum Ex.x) (Tx.dig Tx.tTx Ex.t)) U U U ts29 (len_qC Ex.len_pt (Old.Bl.len_sum _) Tx.len_dig) qC_one H (by rw [len_qC List.length_replicate List.length_replicate List.length_replicate];decide) (spl_all ((len_qC Ex.len_pt (Old.Bl.len_sum _) Tx.len_dig).trans (len_qC List.length_replicate List.length_replicate List.length_replicate).symm)) ?_)
      clear H;intro W H
      refine ⟨_,fun _ h=>h,H.sb,?_⟩
      refine t_nil (kn (n_then ?_))
      refine ⟨_,_,U,?_,?_,⟨gs,gq,U,H.pm⟩⟩
      ·with_reducible repeat first|exact .refl|refine .f ?_ ?_ ?_;kernel_rfl;kernel_rfl|refine .u ?_ ?_;kernel_rfl
      ·refine ⟨?_,trivial⟩
       ·exact U
     refine t_each ?_ ?_
     ·skip
      refine tf U (eal (qC none 0 0 zPt (List.replicate 32 0) (List.replicate 32 0)) tz_q H ?_)
      clear H;intro gq W H
      refine ⟨_,fun _ h=>h,H.sb,?_⟩
      refine tf U (ebs (xs:=[.const (.int .u8 5),.const (.int .u8 6)]) (vals:=[.int .u8 _,.int .u8 _]) (vs:=[.int .u8 _,.int .u8 _]) U U U U tu23 ts5 ty5 U U U H ?_)
      clear H;intro gs W H
      refine ⟨_,fun _ h=>h,H.sb,?_⟩
      refine tR U (fun W H=>b_xq (pt:=Ex.pt) (h:=(Old.Bl.sum Ex.x)) (id:=(Tx.dig Tx.tTx Ex.t)) Ex.len_pt (Old.Bl.len_sum _) Tx.len_dig U U U U U) (tf U (esk (qC (some ⟨gs,0,none⟩) 2 2 Ex.pt (Old.Bl.sum Ex.x) (Tx.dig Tx.tTx Ex.t)) U U U ts29 (len_qC Ex.len_pt (Old.Bl.len_sum _) Tx.len_dig) qC_one H (by rw [len_qC List.length_replicate List.length_replicate List.length_replicate];decide) (spl_all ((len_qC Ex.len_pt (Old.Bl.len_sum _) Tx.len_dig).trans (len_qC List.length_replicate List.length_replicate List.length_replicate).symm)) ?_))
      clear H;intro W H
      refine ⟨_,fun _ h=>h,H.sb,?_⟩
      refine t_nil (kn (n_then ?_))
      refine ⟨_,_,U,?_,?_,⟨gs,gq,U,H.pm⟩⟩
      ·with_reducible repeat first|exact .refl|refine .f ?_ ?_ ?_;kernel_rfl;kernel_rfl|refine .u ?_ ?_;kernel_rfl
      ·refine ⟨?_,trivial⟩
       ·exact U
     exact t_none
    refine t_each ?_ ?_
    ·skip
     refine tf U (eal (qC none 0 0 zPt (List.replicate 32 0) (List.replicate 32 0)) tz_q H ?_)
     clear H;intro gq W H
     refine ⟨_,fun _ h=>h,H.sb,?_⟩
     refine t_each ?_ ?_
     ·skip
      refine tf U (ebs (xs:=[.const (.int .u8 5),.const (.int .u8 6)]) (vals:=[.int .u8 _,.int .u8 _]) (vs:=[.int .u8 _,.int .u8 _]) U U U U tu23 ts5 ty5 U U U H ?_)
      clear H;intro gs W H
      refine ⟨_,fun _ h=>h,H.sb,?_⟩
      refine tf U (eI Tryz.func25 U U (idTP _ (H.get (f:=Fact.exY S gc gi go yp)).2 (H.gat hG) (H.gl hB)) H ?_)
      clear H;intro W H
      refine ⟨_,fun _ h=>h,H.sb,?_⟩
      refine tR U (fun W H=>b_xq (pt:=Ex.pt) (h:=(Old.Bl.sum Ex.x)) (id:=(Tx.dig Tx.tTx Ex.t)) Ex.len_pt (Old.Bl.len_sum _) Tx.len_dig U U U U U) (tf U (esk (qC (some ⟨gs,0,none⟩) 2 2 Ex.pt (Old.Bl.sum Ex.x) (Tx.dig Tx.tTx Ex.t)) U U U ts29 (len_qC Ex.len_pt (Old.Bl.len_sum _) Tx.len_dig) qC_one H (by rw [len_qC List.length_replicate List.length_replicate List.length_replicate];decide) (spl_all ((len_qC Ex.len_pt (Old.Bl.len_sum _) Tx.len_dig).trans (len_qC List.length_replicate List.length_replicate List.length_replicate).symm)) ?_))
      clear H;intro W H
      refine ⟨_,fun _ h=>h,H.sb,?_⟩
      refine t_nil (kn (n_then ?_))
      refine ⟨_,_,U,?_,?_,⟨gs,gq,U,H.pm⟩⟩
      ·with_reducible repeat first|exact .refl|refine .f ?_ ?_ ?_;kernel_rfl;kernel_rfl|refine .u ?_ ?_;kernel_rfl
      ·refine ⟨?_,trivial⟩
       ·exact U
     refine t_each ?_ ?_
     ·skip
      refine tf U (eI Tryz.func25 U U (idTP _ (H.get (f:=Fact.exY S gc gi go yp)).2 (H.gat hG) (H.gl hB)) H ?_)
      clear H;intro W H
      refine ⟨_,fun _ h=>h,H.sb,?_⟩
      refine tf U (ebs (xs:=[.const (.int .u8 5),.const (.int .u8 6)]) (vals:=[.int .u8 _,.int .u8 _]) (vs:=[.int .u8 _,.int .u8 _]) U U U U tu23 ts5 ty5 U U U H ?_)
      clear H;intro gs W H
      refine ⟨_,fun _ h=>h,H.sb,?_⟩
      refine tR U (fun W H=>b_xq (pt:=Ex.pt) (h:=(Old.Bl.sum Ex.x)) (id:=(Tx.dig Tx.tTx Ex.t)) Ex.len_pt (Old.Bl.len_sum _) Tx.len_dig U U U U U) (tf U (esk (qC (some ⟨gs,0,none⟩) 2 2 Ex.pt (Old.Bl.sum Ex.x) (Tx.dig Tx.tTx Ex.t)) U U U ts29 (len_qC Ex.len_pt (Old.Bl.len_sum _) Tx.len_dig) qC_one H (by rw [len_qC List.length_replicate List.length_replicate List.length_replicate];decide) (spl_all ((len_qC Ex.len_pt (Old.Bl.len_sum _) Tx.len_dig).trans (len_qC List.length_replicate List.length_replicate List.length_replicate).symm)) ?_))
      clear H;intro W H
      refine ⟨_,fun _ h=>h,H.sb,?_⟩
      refine t_nil (kn (n_then ?_))
      refine ⟨_,_,U,?_,?_,⟨gs,gq,U,H.pm⟩⟩
      ·with_reducible repeat first|exact .refl|refine .f ?_ ?_ ?_;kernel_rfl;kernel_rfl|refine .u ?_ ?_;kernel_rfl
      ·refine ⟨?_,trivial⟩
       ·exact U
     exact t_none
    exact t_none
   refine t_each ?_ ?_
   ·skip
    refine tf U (eal (qC none 0 0 zPt (List.replicate 32 0) (List.replicate 32 0)) tz_q H ?_)
    clear H;intro gq W H
    refine ⟨_,fun _ h=>h,H.sb,?_⟩
    refine t_each ?_ ?_
    ·skip
     refine tf U (ebs (xs:=[.const (.int .u8 5),.const (.int .u8 6)]) (vals:=[.int .u8 _,.int .u8 _]) (vs:=[.int .u8 _,.int .u8 _]) U U U U tu23 ts5 ty5 U U U H ?_)
     clear H;intro gs W H
     refine ⟨_,fun _ h=>h,H.sb,?_⟩
     refine tf U (eI Tryz.func25 U U (idTP _ (H.get (f:=Fact.exY S gc gi go yp)).2 (H.gat hG) (H.gl hB)) H ?_)
     clear H;intro W H
     refine ⟨_,fun _ h=>h,H.sb,?_⟩
     refine tR U (fun W H=>b_xpt Tx.len_dig U U) (tf U (eI Tryz.func25 U U (idTP _ (H.get (f:=Fact.exY S gc gi go yp)).2 (H.gat hG) (H.gl hB)) H ?_))
     clear H;intro W H
     refine ⟨_,fun _ h=>h,H.sb,?_⟩
     refine tR U (fun W H=>b_xq (pt:=Ex.pt) (h:=(Old.Bl.sum Ex.x)) (id:=(Tx.dig Tx.tTx Ex.t)) Ex.len_pt (Old.Bl.len_sum _) Tx.len_dig U U U U U) (tf U (esk (qC (some ⟨gs,0,none⟩) 2 2 Ex.pt (Old.Bl.sum Ex.x) (Tx.dig Tx.tTx Ex.t)) U U U ts29 (len_qC Ex.len_pt (Old.Bl.len_sum _) Tx.len_dig) qC_one H (by rw [len_qC List.length_replicate List.length_replicate List.length_replicate];decide) (spl_all ((len_qC Ex.len_pt (Old.Bl.len_sum _) Tx.len_dig).trans (len_qC List.length_replicate List.length_replicate List.length_replicate).symm)) ?_))
     clear H;intro W H
     refine ⟨_,fun _ h=>h,H.sb,?_⟩
     refine t_nil (kn (n_then ?_))
     refine ⟨_,_,U,?_,?_,⟨gs,gq,U,H.pm⟩⟩
     ·with_reducible repeat first|exact .refl|refine .f ?_ ?_ ?_;kernel_rfl;kernel_rfl|refine .u ?_ ?_;kernel_rfl
     ·refine ⟨?_,trivial⟩
      ·exact U
    refine t_each ?_ ?_
    ·skip
     refine tf U (eI Tryz.func25 U U (idTP _ (H.get (f:=Fact.exY S gc gi go yp)).2 (H.gat hG) (H.gl hB)) H ?_)
     clear H;intro W H
     refine ⟨_,fun _ h=>h,H.sb,?_⟩
     refine tR U (fun W H=>b_xpt Tx.len_dig U U) (t_each ?_ ?_)
     ·skip
      refine tf U (ebs (xs:=[.const (.int .u8 5),.const (.int .u8 6)]) (vals:=[.int .u8 _,.int .u8 _]) (vs:=[.int .u8 _,.int .u8 _]) U U U U tu23 ts5 ty5 U U U H ?_)
      clear H;intro gs W H
      refine ⟨_,fun _ h=>h,H.sb,?_⟩
      refine tf U (eI Tryz.func25 U U (idTP _ (H.get (f:=Fact.exY S gc gi go yp)).2 (H.gat hG) (H.gl hB)) H ?_)
      clear H;intro W H
      refine ⟨_,fun _ h=>h,H.sb,?_⟩
      refine tR U (fun W H=>b_xq (pt:=Ex.pt) (h:=(Old.Bl.sum Ex.x)) (id:=(Tx.dig Tx.tTx Ex.t)) Ex.len_pt (Old.Bl.len_sum _) Tx.len_dig U U U U U) (tf U (esk (qC (some ⟨gs,0,none⟩) 2 2 Ex.pt (Old.Bl.sum Ex.x) (Tx.dig Tx.tTx Ex.t)) U U U ts29 (len_qC Ex.len_pt (Old.Bl.len_sum _) Tx.len_dig) qC_one H (by rw [len_qC List.length_replicate List.length_replicate List.length_replicate];decide) (spl_all ((len_qC Ex.len_pt (Old.Bl.len_sum _) Tx.len_dig).trans (len_qC List.length_replicate List.length_replicate List.length_replicate).symm)) ?_))
      clear H;intro W H
      refine ⟨_,fun _ h=>h,H.sb,?_⟩
      refine t_nil (kn (n_then ?_))
      refine ⟨_,_,U,?_,?_,⟨gs,gq,U,H.pm⟩⟩
      ·with_reducible repeat first|exact .refl|refine .f ?_ ?_ ?_;kernel_rfl;kernel_rfl|refine .u ?_ ?_;kernel_rfl
      ·refine ⟨?_,trivial⟩
       ·exact U
     refine t_each ?_ ?_
     ·skip
      refine tf U (eI Tryz.func25 U U (idTP _ (H.get (f:=Fact.exY S gc gi go yp)).2 (H.gat hG) (H.gl hB)) H ?_)
      clear H;intro W H
      refine ⟨_,fun _ h=>h,H.sb,?_⟩
      refine tf U (ebs (xs:=[.const (.int .u8 5),.const (.int .u8 6)]) (vals:=[.int .u8 _,.int .u8 _]) (vs:=[.int .u8 _,.int .u8 _]) U U U U tu23 ts5 ty5 U U U H ?_)
      clear H;intro gs W H
      refine ⟨_,fun _ h=>h,H.sb,?_⟩
      refine tR U (fun W H=>b_xq (pt:=Ex.pt) (h:=(Old.Bl.sum Ex.x)) (id:=(Tx.dig Tx.tTx Ex.t)) Ex.len_pt (Old.Bl.len_sum _) Tx.len_dig U U U U U) (tf U (esk (qC (some ⟨gs,0,none⟩) 2 2 Ex.pt (Old.Bl.sum Ex.x) (Tx.dig Tx.tTx Ex.t)) U U U ts29 (len_qC Ex.len_pt (Old.Bl.len_sum _) Tx.len_dig) qC_one H (by rw [len_qC List.length_replicate List.length_replicate List.length_replicate];decide) (spl_all ((len_qC Ex.len_pt (Old.Bl.len_sum _) Tx.len_dig).trans (len_qC List.length_replicate List.length_replicate List.length_replicate).symm)) ?_))
      clear H;intro W H
      refine ⟨_,fun _ h=>h,H.sb,?_⟩
      refine t_nil (kn (n_then ?_))
      refine ⟨_,_,U,?_,?_,⟨gs,gq,U,H.pm⟩⟩
      ·with_reducible repeat first|exact .refl|refine .f ?_ ?_ ?_;kernel_rfl;kernel_rfl|refine .u ?_ ?_;kernel_rfl
      ·refine ⟨?_,trivial⟩
       ·exact U
     exact t_none
    exact t_none
   exact t_none
  clear H;obtain ⟨gs,gq,rfl,H⟩:=hJ
  refine kR (sMs U (sR (dM (g:=gq) (off:=0) U H (sa (len_qC Ex.len_pt (Old.Bl.len_sum _) Tx.len_dig)) (len_qC Ex.len_pt (Old.Bl.len_sum _) Tx.len_dig) U U U ta29 ts29) (sf (eI Tryz.func3 U U (watchShowsB (p:=Ex.path2) (s:=[5,6]) _ (H.rep1 (R:=RL 66 RBlock) (S:=SU) (cs:=[.slice (some ⟨g8,0,none⟩) 3 c8]) (a:=Ex.path2)) (H.gat hG) (H.gl hB) Ex.szd2 (Wt.blk_bs (S:=fun _=>True) (l:=[5,6]) (H.blk (g:=gs)) U trivial U (by decide)) Ex.len_pt Ex.n_pt (Old.Bl.len_sum _) Tx.len_dig) H ?_))))
  clear H;intro W H
  refine sBt U (by rfl) ?_
  refine sr (w_g U U U U) U (mv_s U U) (sr (w_g U U U U) U (dM (g:=gq) (off:=0) U H (sa (len_qC Ex.len_pt (Old.Bl.len_sum _) Tx.len_dig)) (len_qC Ex.len_pt (Old.Bl.len_sum _) Tx.len_dig) U U U ta29 ts29) (sf (e_call (w_g U U U U) U U Tryz.func3 U U U (watchShowsB (p:=Ex.path2++Ex.path) (s:=[5,6]) _ (rl_long (S3:=S3) (S2:=S) (p:=Ex.path2) (r:=Ex.path) (H.get (f:=Fact.row 76 66 (.slice A19 (Ex.path2++Ex.path).length c19) (Ex.path2++Ex.path).length (zs++yp))) (H.get (f:=Fact.els RBlock 66 S3 zs Ex.path2)) (H.get (f:=Fact.exY S gc gi go yp)).1.2 ⟨hc19,hd19⟩) (H.gat hG) (H.gl hB) Ex.szd12 (Wt.blk_bs (S:=fun _=>True) (l:=[5,6]) (H.blk (g:=gs)) U trivial U (by decide)) Ex.len_pt Ex.n_pt (Old.Bl.len_sum _) Tx.len_dig) ?_)))
  rintro _ W ⟨rfl,hb⟩
  replace H:=H.below hb
  clear hb
  refine sPT U U (sBt U (by rfl) ?_)
  refine sr (w_g U U U U) U (mv_s U U) (sr (w_g U U U U) U (mv_s U U) (sr (w_g U U U U) U (dM (g:=gq) (off:=0) U H (sa (len_qC Ex.len_pt (Old.Bl.len_sum _) Tx.len_dig)) (len_qC Ex.len_pt (Old.Bl.len_sum _) Tx.len_dig) U U U ta29 ts29) (sf (e_call (w_g U U U U) U U Tryz.func26 U U U (watchGrowsB (p:=Ex.path2) (r:=Ex.path2++Ex.path) (s:=[5,6]) _ (H.rep1 (R:=RL 66 RBlock) (S:=SU) (cs:=[.slice (some ⟨g8,0,none⟩) 3 c8]) (a:=Ex.path2)) (rl_long (S3:=S3) (S2:=S) (p:=Ex.path2) (r:=Ex.path) (H.get (f:=Fact.row 76 66 (.slice A19 (Ex.path2++Ex.path).length c19) (Ex.path2++Ex.path).length (zs++yp))) (H.get (f:=Fact.els RBlock 66 S3 zs Ex.path2)) (H.get (f:=Fact.exY S gc gi go yp)).1.2 ⟨hc19,hd19⟩) (H.gat hG) (H.gl hB) Ex.szd2 Ex.szd12 (Wt.blk_bs (S:=fun _=>True) (l:=[5,6]) (H.blk (g:=gs)) U trivial U (by decide)) Ex.len_pt Ex.n_pt (Old.Bl.len_sum _) Tx.len_dig) ?_))))
  rintro _ W ⟨rfl,hb⟩
  replace H:=H.below hb
  clear hb
  refine sPT U U (sBt U (by rfl) ?_)
  refine sr (w_g U U U U) U (dM (g:=gq) (off:=0) U H (sa (len_qC Ex.len_pt (Old.Bl.len_sum _) Tx.len_dig)) (len_qC Ex.len_pt (Old.Bl.len_sum _) Tx.len_dig) U U U ta29 ts29) (sf (e_call (w_g U U U U) U U Tryz.func3 U U U (watchShowsB (p:=[]) (s:=[5,6]) _ (rl_nil (S:=nT)) (H.gat hG) (H.gl hB) (fun b hb=>by cases hb) (Wt.blk_bs (S:=fun _=>True) (l:=[5,6]) (H.blk (g:=gs)) U trivial U (by decide)) Ex.len_pt Ex.n_pt (Old.Bl.len_sum _) Tx.len_dig) ?_))
  rintro _ W ⟨rfl,hb⟩
  replace H:=H.below hb
  clear hb
  refine sPT U U (sBt U (by rfl) ?_)
  refine sf (e_call (w_g U U U U) U U Tryz.func6 U U U (works13 _ (H.gat hG) (H.gl hB)) ?_)
  rintro _ W ⟨rfl,hb⟩
  replace H:=H.below hb
  clear hb
  refine sPT U U (sAb U (ln (kx ?_)))
  exact qr (v:=.bool _) U U ⟨_,U,vb (U),H.under⟩
end Go.Proofs.YtjjodibkmeefpaaGreatDoor
