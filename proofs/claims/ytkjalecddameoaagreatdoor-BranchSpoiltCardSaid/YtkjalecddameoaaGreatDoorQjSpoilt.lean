/- The law BranchSpoilt: its function returns true, whatever it is given. -/
import Derived.Test.YtkjalecddameoaaGreatDoorQjBooks
import Derived.Test.YtkjalecddameoaaGreatDoorQlByt
set_option linter.all false
namespace Go.Pv
open Go Go.RowKit Go.Proofs
set_option maxRecDepth 200000
set_option maxHeartbeats 8000000
theorem law_spoilt (hk:ConOk Tryz.prog 21 c21) (s:Sty) (hok:s.ok = true) (x d:Int):CallOk Tryz.prog 15 [.agg s.cells,ii x,ii d] [] (.ret (.bool true)) []:=by
 refine CallOk.of0 hTT Tryz.func15 rfl rfl ?_
 have hd:=decSt_cells s hok
 have h1:=closedL_sns s.sc
 have h2:=closedL_rzs s.rz
 cases h0:shortB s
 ·repeat (with_reducible (first | apply nx | apply wQ rfl | ((first | apply wV | apply wW | apply wX | (apply wy (cfR5_ok hk);(focus kernel_rfl)));(focus (simp only [Tryz.f15,cfR5,c19,c21,hd,h0,h1,h2,go_sem];rfl))) | refine wz (cfR5_ok hk) ?_ | (refine wa ?_;refine And.intro ?_ ?_;(focus kernel_rfl))))
  exact ⟨rfl,rfl,_,rfl,rfl⟩
 cases hst:s.story
 ·repeat (with_reducible (first | apply nx | apply wQ rfl | ((first | apply wV | apply wW | apply wX | (apply wy (cfR5_ok hk);(focus kernel_rfl)));(focus (simp only [Tryz.f15,cfR5,c19,c20,c21,hd,h0,hst,h1,h2,go_sem];rfl))) | refine wz (cfR5_ok hk) ?_ | (refine wa ?_;refine And.intro ?_ ?_;(focus kernel_rfl))))
  exact ⟨rfl,rfl,_,rfl,rfl⟩
 by_cases d1:d < 0
 ·repeat (with_reducible (first | apply nx | apply wQ rfl | ((first | apply wV | apply wW | apply wX | (apply wy (cfR5_ok hk);(focus kernel_rfl)));(focus (simp only [Tryz.f15,cfR5,c19,c20,c21,hd,h0,hst,h1,h2,d1,go_sem];rfl))) | refine wz (cfR5_ok hk) ?_ | (refine wa ?_;refine And.intro ?_ ?_;(focus kernel_rfl))))
  exact ⟨rfl,rfl,_,rfl,rfl⟩
 by_cases d2:(9:Int) < d
 ·repeat (with_reducible (first | apply nx | apply wQ rfl | ((first | apply wV | apply wW | apply wX | (apply wy (cfR5_ok hk);(focus kernel_rfl)));(focus (simp only [Tryz.f15,cfR5,c19,c20,c21,hd,h0,hst,h1,h2,d1,d2,gt_iff_lt,go_sem];rfl))) | refine wz (cfR5_ok hk) ?_ | (refine wa ?_;refine And.intro ?_ ?_;(focus kernel_rfl))))
  exact ⟨rfl,rfl,_,rfl,rfl⟩
 have hp:=(Sty.story_ok hst).toPartsOk
 have hT:=thr_of hp
 have hL:=text_len hp
 have hP:printR s = .tuple [.str (textB s.e s.sc s.rl),ii 0]:=by unfold printR;rw [hst];rfl
 have b00:((0:Int) != 0) = false:=rfl
 generalize htx:textB s.e s.sc s.rl = t at hL hP
 by_cases x1:x < 0
 ·repeat (with_reducible (first | apply nx | apply wQ rfl | ((first | apply wV | apply wW | apply wX | (apply wy (cfR5_ok hk);(focus kernel_rfl)));(focus (simp only [Tryz.f15,cfR5,c19,c20,c21,c57,hd,h0,hst,h1,h2,d1,d2,hP,b00,x1,gt_iff_lt,ge_iff_le,go_sem];rfl))) | refine wz (cfR5_ok hk) ?_ | (refine wa ?_;refine And.intro ?_ ?_;(focus kernel_rfl))))
  exact ⟨rfl,rfl,_,rfl,rfl⟩
 by_cases x2:((t.length:Nat):Int) ≤ x
 ·repeat (with_reducible (first | apply nx | apply wQ rfl | ((first | apply wV | apply wW | apply wX | (apply wy (cfR5_ok hk);(focus kernel_rfl)));(focus (simp only [Tryz.f15,cfR5,c19,c20,c21,c57,hd,h0,hst,h1,h2,d1,d2,hP,b00,x1,x2,gt_iff_lt,ge_iff_le,go_sem];rfl))) | refine wz (cfR5_ok hk) ?_ | (refine wa ?_;refine And.intro ?_ ?_;(focus kernel_rfl))))
  exact ⟨rfl,rfl,_,rfl,rfl⟩
 have hxl:x.toNat < t.length:=by omega
 obtain ⟨b,hb⟩:∃ b,t[x.toNat]? = some b:=⟨_,List.getElem?_eq_getElem hxl⟩
 have x0:(0:Int) ≤ x:=by omega
 by_cases b1:((b.toNat:Nat):Int) < 48
 ·repeat (with_reducible (first | apply nx | apply wQ rfl | ((first | apply wV | apply wW | apply wX | (apply wy (cfR5_ok hk);(focus kernel_rfl)));(focus (simp only [Tryz.f15,cfR5,c19,c20,c21,c57,hd,h0,hst,h1,h2,d1,d2,hP,b00,x0,x1,x2,hb,b1,gt_iff_lt,ge_iff_le,go_sem];rfl))) | refine wz (cfR5_ok hk) ?_ | (refine wa ?_;refine And.intro ?_ ?_;(focus kernel_rfl))))
  exact ⟨rfl,rfl,_,rfl,rfl⟩
 by_cases b2:(57:Int) < ((b.toNat:Nat):Int)
 ·repeat (with_reducible (first | apply nx | apply wQ rfl | ((first | apply wV | apply wW | apply wX | (apply wy (cfR5_ok hk);(focus kernel_rfl)));(focus (simp only [Tryz.f15,cfR5,c19,c20,c21,c57,hd,h0,hst,h1,h2,d1,d2,hP,b00,x0,x1,x2,hb,b1,b2,gt_iff_lt,ge_iff_le,go_sem];rfl))) | refine wz (cfR5_ok hk) ?_ | (refine wa ?_;refine And.intro ?_ ?_;(focus kernel_rfl))))
  exact ⟨rfl,rfl,_,rfl,rfl⟩
 have w1:IntKind.u8.wrap (((b.toNat:Nat):Int) - 48) = ((b.toNat:Nat):Int) - 48:=wrap8 (by omega) (by have:=b.toNat_lt;omega)
 have w2:IntKind.i64.wrap (((b.toNat:Nat):Int) - 48) = ((b.toNat:Nat):Int) - 48:=wrap_id (by omega) (by omega)
 cases b3:(((b.toNat:Nat):Int) - 48 == d)
 case true =>
  repeat (with_reducible (first | apply nx | apply wQ rfl | ((first | apply wV | apply wW | apply wX | (apply wy (cfR5_ok hk);(focus kernel_rfl)));(focus (simp only [Tryz.f15,cfR5,c19,c20,c21,c57,hd,h0,hst,h1,h2,d1,d2,hP,b00,x0,x1,x2,hb,b1,b2,b3,w1,w2,gt_iff_lt,ge_iff_le,go_sem];rfl))) | refine wz (cfR5_ok hk) ?_ | (refine wa ?_;refine And.intro ?_ ?_;(focus kernel_rfl))))
  exact ⟨rfl,rfl,_,rfl,rfl⟩
 repeat (with_reducible (first | ((fail_if_success (refine RunQ.seq (x:=.region 8 _ _) ?_));(apply nx)) | apply wQ rfl | ((first | apply wV | apply wW | apply wX | (apply wy (cfR5_ok hk);(focus kernel_rfl)));(focus (simp only [Tryz.f15,cfR5,c19,c20,c21,c57,hd,h0,hst,h1,h2,d1,d2,hP,b00,x0,x1,x2,hb,b1,b2,b3,w1,w2,gt_iff_lt,ge_iff_le,go_sem];rfl))) | ((fail_if_success (show RunQ _ (.region 8 _ _) _ _));(refine wz (cfR5_ok hk) ?_)) | (refine wa ?_;refine And.intro ?_ ?_;(focus kernel_rfl))))
 refine RunQ.keep [7,3,2,1] (by simp only [go_sem];rfl) ?_
 have hxx:x = ((x.toNat:Nat):Int):=by omega
 generalize x.toNat = k at hxl hb hxx
 subst hxx
 have hd0:0 ≤ d:=by omega
 have hd9:d ≤ 9:=by omega
 have htm:t.length ≤ maxLen:=by unfold maxLen;omega
 refine RunQ.bytesSet (b:=UInt8.ofNat (48 + d).toNat) hTT (cfR5_ok hk) noM_ok rfl rfl rfl rfl rfl rfl rfl rfl hxl hd0 hd9 rfl htm (show (76:Nat) < 90 by decide) rfl rfl rfl rfl rfl rfl rfl rfl rfl rfl ?_
 have hdig:isDig (UInt8.ofNat (48 + d).toNat) = true:=by
  rw [isDig_iff,UInt8.toNat_ofNat']
  omega
 have hbd:isDig b = true:=isDig_iff.2 ⟨by omega,by omega⟩
 have hbne:b ≠ UInt8.ofNat (48 + d).toNat:=fun e=>by
  have h1:b.toNat = (48 + d).toNat:=by rw [e,UInt8.toNat_ofNat'];omega
  rw [beq_eq_false_iff_ne] at b3
  omega
 have hsplit:t = t.take k ++ b :: t.drop (k + 1):=by
  rw [← drop_get hb,List.take_append_drop]
 have hset:t.set k (UInt8.ofNat (48 + d).toNat) = t.take k ++ UInt8.ofNat (48 + d).toNat :: t.drop (k + 1):=by
  rw [List.set_eq_take_append_cons_drop,if_pos hxl]
 obtain ⟨e,he⟩:=text_spoilt hT (fun r hr=>by have:=hp.rr r hr;omega) (by have:=hp.s8;omega) (by have:=hp.r10;omega) hbd hdig hbne (htx.trans hsplit)
 have hR:readP (t.set k (UInt8.ofNat (48 + d).toNat)) = .tuple [.agg [ii 0,.sl .n [],.sl .n []],ii 4]:=by
  unfold readP
  rw [List.length_set,if_neg (by omega),hset,he]
  rfl
 have hl2:(t.set k (UInt8.ofNat (48 + d).toNat)).length ≤ 100000:=by rw [List.length_set];omega
 generalize t.set k (UInt8.ofNat (48 + d).toNat) = t2 at hR hl2 ⊢
 have hdz:=dec_zero
 have haz:=alike_zero
 iterate 7 (apply RegG.step;(focus (simp only [Tryz.f15,cfR5,c58,hR,hl2,go_sem];with_reducible rfl)))
 refine RegG.nil ?_
 refine thenQ.n ?_
 repeat (with_reducible (first | apply nx | apply wQ rfl | ((first | apply wV | apply wW | apply wX | (apply wy (cfR5_ok hk);(focus kernel_rfl)));(focus (simp only [Tryz.f15,cfR5,c21,c60,hdz,haz,beq_self_eq_true,go_sem];rfl))) | refine wz (cfR5_ok hk) ?_ | (refine wa ?_;refine And.intro ?_ ?_;(focus kernel_rfl))))
 exact ⟨rfl,rfl,_,rfl,rfl⟩
end Go.Pv
