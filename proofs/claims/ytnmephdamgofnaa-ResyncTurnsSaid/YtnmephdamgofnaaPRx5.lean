/- Written by a program of this session (wip/jprint.py, over the printer of the kit): functions that a law comes to, as plain Lean functions, and walks; Lean checks it. -/
import Derived.Test.YtnmephdamgofnaaPRx0
import Derived.Test.YtnmephdamgofnaaPRx1
import Derived.Test.YtnmephdamgofnaaPRx3
namespace Go.Proofs.Ytnmephdamgofnaa.PR
open Go.RowKit Go.Proofs.Ytnmephdamgofnaa.Hand Go.Proofs.Ytnmephdamgofnaa.PA Go.Proofs.Ytnmephdamgofnaa.PB Go.Proofs.YtnmephdamgofnaaW.PrintWords Go.Proofs.YtnmephdamgofnaaW.PrintLast Go.Proofs.YtnmephdamgofnaaW.PrintMore
attribute [local go_sem] max2_int min2_int max_two min_two max_three min_three max_four min_four   -- for this text's walks alone
set_option linter.unusedVariables false
set_option linter.unusedSimpArgs false

attribute [local go_sem high] eqA25
theorem bc16_ {w : World} {g : Nat} {t : TypeId} (v0 v1 v2 v3 v4 v5 v6 v7 v8 v9 v10 v11 v12 v13 v14 v15 : Value) (h : w.heap[g]? = some (.cells #[v0,v1,v2,v3,v4,v5,v6,v7,v8,v9,v10,v11,v12,v13,v14,v15] t (0,0))) : w.cell? ⟨g,0,none⟩ = some v0∧w.cell? ⟨g,1,none⟩ = some v1∧w.cell? ⟨g,2,none⟩ = some v2∧w.cell? ⟨g,3,none⟩ = some v3∧w.cell? ⟨g,4,none⟩ = some v4∧w.cell? ⟨g,5,none⟩ = some v5∧w.cell? ⟨g,6,none⟩ = some v6∧w.cell? ⟨g,7,none⟩ = some v7∧w.cell? ⟨g,8,none⟩ = some v8∧w.cell? ⟨g,9,none⟩ = some v9∧w.cell? ⟨g,10,none⟩ = some v10∧w.cell? ⟨g,11,none⟩ = some v11∧w.cell? ⟨g,12,none⟩ = some v12∧w.cell? ⟨g,13,none⟩ = some v13∧w.cell? ⟨g,14,none⟩ = some v14∧w.cell? ⟨g,15,none⟩ = some v15:=⟨(blk_cell h 0).trans rfl,(blk_cell h 1).trans rfl,(blk_cell h 2).trans rfl,(blk_cell h 3).trans rfl,(blk_cell h 4).trans rfl,(blk_cell h 5).trans rfl,(blk_cell h 6).trans rfl,(blk_cell h 7).trans rfl,(blk_cell h 8).trans rfl,(blk_cell h 9).trans rfl,(blk_cell h 10).trans rfl,(blk_cell h 11).trans rfl,(blk_cell h 12).trans rfl,(blk_cell h 13).trans rfl,(blk_cell h 14).trans rfl,(blk_cell h 15).trans rfl⟩
theorem bf16_ {w : World} {g : Nat} {t : TypeId} {cs : Array Value} (h : w.heap[g]? = some (.cells cs t (0,0))) : w.frozen? ⟨g,0,none⟩ = false∧w.frozen? ⟨g,1,none⟩ = false∧w.frozen? ⟨g,2,none⟩ = false∧w.frozen? ⟨g,3,none⟩ = false∧w.frozen? ⟨g,4,none⟩ = false∧w.frozen? ⟨g,5,none⟩ = false∧w.frozen? ⟨g,6,none⟩ = false∧w.frozen? ⟨g,7,none⟩ = false∧w.frozen? ⟨g,8,none⟩ = false∧w.frozen? ⟨g,9,none⟩ = false∧w.frozen? ⟨g,10,none⟩ = false∧w.frozen? ⟨g,11,none⟩ = false∧w.frozen? ⟨g,12,none⟩ = false∧w.frozen? ⟨g,13,none⟩ = false∧w.frozen? ⟨g,14,none⟩ = false∧w.frozen? ⟨g,15,none⟩ = false:=⟨blk_frozen h 0,blk_frozen h 1,blk_frozen h 2,blk_frozen h 3,blk_frozen h 4,blk_frozen h 5,blk_frozen h 6,blk_frozen h 7,blk_frozen h 8,blk_frozen h 9,blk_frozen h 10,blk_frozen h 11,blk_frozen h 12,blk_frozen h 13,blk_frozen h 14,blk_frozen h 15⟩
/-! ### vesperslaw15_ResyncTurns: function 3 -/
mutual
def vesperslaw15_ResyncTurns.j0 : Nat→List Int→List (List Int)→Int→Bool→Int→Int→Int→Int→Int→Int→Int→Int→Int→Int→Int→Int→Int→Int→Int→Int→Int→Int→Int→Bool→Option (Bool)
 | 0,_,_,_,_,_,_,_,_,_,_,_,_,_,_,_,_,_,_,_,_,_,_,_,_=>none
 | k + 1,x2,x3,x4,x36,q1300,q1301,q1302,q1303,q1304,q1305,q1306,q1307,q1308,q1309,q1310,q1311,q1312,q1313,q1314,q1315,q1400,q1401,q1402,q1403=>if x36 = true then (some true) else (vesperslaw15_ResyncTurns.l0 k x2 x3 x4 (x3.length : Int) 0 q1300 q1301 q1302 q1303 q1304 q1305 q1306 q1307 q1308 q1309 q1310 q1311 q1312 q1313 q1314 q1315 q1400 q1401 q1402 q1403)
def vesperslaw15_ResyncTurns.l0 : Nat→List Int→List (List Int)→Int→Int→Int→Int→Int→Int→Int→Int→Int→Int→Int→Int→Int→Int→Int→Int→Int→Int→Int→Int→Int→Int→Bool→Option (Bool)
 | 0,_,_,_,_,_,_,_,_,_,_,_,_,_,_,_,_,_,_,_,_,_,_,_,_,_=>none
 | k + 1,x2,x3,x4,x38,x39,q1300,q1301,q1302,q1303,q1304,q1305,q1306,q1307,q1308,q1309,q1310,q1311,q1312,q1313,q1314,q1315,q1400,q1401,q1402,q1403=>if x39 < x38 then (if 0 ≤ x39 then (if x39 < (x3.length : Int) then (if ((rd_L2 x3 x39).length : Int) > 50 then (some true) else (vesperslaw15_ResyncTurns.l0 k x2 x3 x4 x38 (wrap64 (x39 + 1)) q1300 q1301 q1302 q1303 q1304 q1305 q1306 q1307 q1308 q1309 q1310 q1311 q1312 q1313 q1314 q1315 q1400 q1401 q1402 q1403)) else (none)) else (none)) else ((some (([] : List Int) : List Int)).bind fun ZZ=>(if ZZ.length + x2.length < 17592186044416 then ((some (ZZ++x2 : List Int)).bind fun QK=>((resync_Correction.f k q1300 q1301 q1302 q1303 q1304 q1305 q1306 q1307 q1308 q1309 q1310 q1311 q1312 q1313 q1314 q1315 QK).bind fun ZY=>((vespersref15_Correction.f k q1300 q1301 q1302 q1303 q1304 q1305 q1306 q1307 q1308 q1309 q1310 q1311 q1312 q1313 q1314 q1315 x2).bind fun ZN=>((resync_Turn.f k q1300 q1301 q1302 q1303 q1304 q1305 q1306 q1307 q1308 q1309 q1310 q1311 q1312 q1313 q1314 q1315 q1400 q1401 q1402 q1403 QK).bind fun QJ=>((vespersref15_Turn.f k q1300 q1301 q1302 q1303 q1304 q1305 q1306 q1307 q1308 q1309 q1310 q1311 q1312 q1313 q1314 q1315 q1400 q1401 q1402 q1403 x2).bind fun QB=>((resync_Fold.f k q1300 q1301 q1302 q1303 q1304 q1305 q1306 q1307 q1308 q1309 q1310 q1311 q1312 q1313 q1314 q1315 x3).bind fun QC=>((vespersref15_Fold.f k q1300 q1301 q1302 q1303 q1304 q1305 q1306 q1307 q1308 q1309 q1310 q1311 q1312 q1313 q1314 q1315 x3).bind fun QA=>(vesperslaw15_ResyncTurns.l1 k x2 x4 QK ZY.1 ZY.2 ZN.1 ZN.2 QJ.2.2.2.2.1 QJ.2.2.2.2.2 QB.2.2.2.2.1 QB.2.2.2.2.2 QC.2.2.2.2 QA.2.2.2.2 (QK.length : Int) 0 q1300 q1301 q1302 q1303 q1304 q1305 q1306 q1307 q1308 q1309 q1310 q1311 q1312 q1313 q1314 q1315 QJ.1 QJ.2.1 QJ.2.2.1 QJ.2.2.2.1 QB.1 QB.2.1 QB.2.2.1 QB.2.2.2.1 QC.1 QC.2.1 QC.2.2.1 QC.2.2.2.1 QA.1 QA.2.1 QA.2.2.1 QA.2.2.2.1)))))))) else (none)))
def vesperslaw15_ResyncTurns.l1 : Nat→List Int→Int→List Int→Int→Int→Int→Int→Int→Int→Int→Int→Int→Int→Int→Int→Int→Int→Int→Int→Int→Int→Int→Int→Int→Int→Int→Int→Int→Int→Int→Int→Int→Int→Int→Bool→Int→Int→Int→Bool→Int→Int→Int→Bool→Int→Int→Int→Bool→Option (Bool)
 | 0,_,_,_,_,_,_,_,_,_,_,_,_,_,_,_,_,_,_,_,_,_,_,_,_,_,_,_,_,_,_,_,_,_,_,_,_,_,_,_,_,_,_,_,_,_,_,_=>none
 | k + 1,x2,x4,x12,x13,x14,x15,x16,x18,x19,x21,x22,x24,x26,x93,x94,q1300,q1301,q1302,q1303,q1304,q1305,q1306,q1307,q1308,q1309,q1310,q1311,q1312,q1313,q1314,q1315,q3200,q3201,q3202,q3203,q3900,q3901,q3902,q3903,q4500,q4501,q4502,q4503,q5100,q5101,q5102,q5103=>if x94 < x93 then (if 0 ≤ x94 then (if x94 < (x12.length : Int) then (if x94 < (x2.length : Int) then (if (rd x12 x94) = (rd x2 x94) then (vesperslaw15_ResyncTurns.l1 k x2 x4 x12 x13 x14 x15 x16 x18 x19 x21 x22 x24 x26 x93 (wrap64 (x94 + 1)) q1300 q1301 q1302 q1303 q1304 q1305 q1306 q1307 q1308 q1309 q1310 q1311 q1312 q1313 q1314 q1315 q3200 q3201 q3202 q3203 q3900 q3901 q3902 q3903 q4500 q4501 q4502 q4503 q5100 q5101 q5102 q5103) else (none)) else (none)) else (none)) else (none)) else ((vespersref07_Check.f k q1300 q1301 q1302 q1303 q1304 q1305 q1306 q1307 q1308 q1309 q1310 q1311 q1312 q1313 q1314 q1315).bind fun ZU=>(if ZU = 0 then (if x13 = x15 then (if x14 = x16 then (if (q3200 == q3900 && (q3201 == q3901 && (q3202 == q3902 && (q3203 == q3903)))) = true then (if x18 = x21 then (if x19 = x22 then (if (q4500 == q5100 && (q4501 == q5101 && (q4502 == q5102 && (q4503 == q5103)))) = true then (if x24 = x26 then ((resync_Enough.f q1300 q1301 q1302 q1303 q1304 q1305 q1306 q1307 q1308 q1309 q1310 q1311 q1312 q1313 q1314 q1315 x4).bind fun t154=>(some (t154 == (decide (x4 > (wrap64 (2 * q1301))))))) else (none)) else (none)) else (none)) else (none)) else (none)) else (none)) else (none)) else (if x13 = x15 then (if x14 = x16 then (if (q3200 == q3900 && (q3201 == q3901 && (q3202 == q3902 && (q3203 == q3903)))) = true then (if x18 = x21 then (if x19 = x22 then (if (q4500 == q5100 && (q4501 == q5101 && (q4502 == q5102 && (q4503 == q5103)))) = true then (if x24 = x26 then ((resync_Enough.f q1300 q1301 q1302 q1303 q1304 q1305 q1306 q1307 q1308 q1309 q1310 q1311 q1312 q1313 q1314 q1315 x4).bind fun t155=>(some (t155 == false))) else (none)) else (none)) else (none)) else (none)) else (none)) else (none)) else (none))))
end
def vesperslaw15_ResyncTurns.f (k : Nat) (Qn : Int) (Qm : Int) (Qo : Int) (Qp : Int) (Qq : Int) (Qr : Int) (Qs : Int) (Qt : Int) (Qu : Int) (Qv : Int) (Qf : Int) (Qg : Int) (Qh : Int) (Qi : Int) (Qj : Int) (Qk : Int) (QL : Int) (QM : Int) (QN : Int) (QO : Bool) (l2 : List Int) (l3 : List (List Int)) (a4 : Int) : Option (Bool):=if (l2.length : Int) > 50 then (vesperslaw15_ResyncTurns.j0 k l2 l3 a4 true Qn Qm Qo Qp Qq Qr Qs Qt Qu Qv Qf Qg Qh Qi Qj Qk QL QM QN QO) else (vesperslaw15_ResyncTurns.j0 k l2 l3 a4 (decide ((l3.length : Int) > 20)) Qn Qm Qo Qp Qq Qr Qs Qt Qu Qv Qf Qg Qh Qi Qj Qk QL QM QN QO)
theorem vesperslaw15_ResyncTurns.mono_l : ∀ k,(∀ y0 y1 y2 y3 y4 y5 y6 y7 y8 y9 y10 y11 y12 y13 y14 y15 y16 y17 y18 y19 y20 y21 y22 y23,LeO (vesperslaw15_ResyncTurns.j0 k y0 y1 y2 y3 y4 y5 y6 y7 y8 y9 y10 y11 y12 y13 y14 y15 y16 y17 y18 y19 y20 y21 y22 y23) (vesperslaw15_ResyncTurns.j0 (k + 1) y0 y1 y2 y3 y4 y5 y6 y7 y8 y9 y10 y11 y12 y13 y14 y15 y16 y17 y18 y19 y20 y21 y22 y23))∧(∀ y0 y1 y2 y3 y4 y5 y6 y7 y8 y9 y10 y11 y12 y13 y14 y15 y16 y17 y18 y19 y20 y21 y22 y23 y24,LeO (vesperslaw15_ResyncTurns.l0 k y0 y1 y2 y3 y4 y5 y6 y7 y8 y9 y10 y11 y12 y13 y14 y15 y16 y17 y18 y19 y20 y21 y22 y23 y24) (vesperslaw15_ResyncTurns.l0 (k + 1) y0 y1 y2 y3 y4 y5 y6 y7 y8 y9 y10 y11 y12 y13 y14 y15 y16 y17 y18 y19 y20 y21 y22 y23 y24))∧(∀ y0 y1 y2 y3 y4 y5 y6 y7 y8 y9 y10 y11 y12 y13 y14 y15 y16 y17 y18 y19 y20 y21 y22 y23 y24 y25 y26 y27 y28 y29 y30 y31 y32 y33 y34 y35 y36 y37 y38 y39 y40 y41 y42 y43 y44 y45 y46,LeO (vesperslaw15_ResyncTurns.l1 k y0 y1 y2 y3 y4 y5 y6 y7 y8 y9 y10 y11 y12 y13 y14 y15 y16 y17 y18 y19 y20 y21 y22 y23 y24 y25 y26 y27 y28 y29 y30 y31 y32 y33 y34 y35 y36 y37 y38 y39 y40 y41 y42 y43 y44 y45 y46) (vesperslaw15_ResyncTurns.l1 (k + 1) y0 y1 y2 y3 y4 y5 y6 y7 y8 y9 y10 y11 y12 y13 y14 y15 y16 y17 y18 y19 y20 y21 y22 y23 y24 y25 y26 y27 y28 y29 y30 y31 y32 y33 y34 y35 y36 y37 y38 y39 y40 y41 y42 y43 y44 y45 y46))
 | 0=>⟨fun _ _ _ _ _ _ _ _ _ _ _ _ _ _ _ _ _ _ _ _ _ _ _ _ r h=>by simp [vesperslaw15_ResyncTurns.j0] at h,fun _ _ _ _ _ _ _ _ _ _ _ _ _ _ _ _ _ _ _ _ _ _ _ _ _ r h=>by simp [vesperslaw15_ResyncTurns.l0] at h,fun _ _ _ _ _ _ _ _ _ _ _ _ _ _ _ _ _ _ _ _ _ _ _ _ _ _ _ _ _ _ _ _ _ _ _ _ _ _ _ _ _ _ _ _ _ _ _ r h=>by simp [vesperslaw15_ResyncTurns.l1] at h⟩
 | k + 1=>by
  obtain ⟨ih0,ih1,ih2⟩:=vesperslaw15_ResyncTurns.mono_l k
  refine ⟨?_,?_,?_⟩
  ·intro y0 y1 y2 y3 y4 y5 y6 y7 y8 y9 y10 y11 y12 y13 y14 y15 y16 y17 y18 y19 y20 y21 y22 y23
   unfold vesperslaw15_ResyncTurns.j0
   repeat' first
   | (with_reducible exact ih0 _ _ _ _ _ _ _ _ _ _ _ _ _ _ _ _ _ _ _ _ _ _ _ _)
   | (with_reducible exact ih1 _ _ _ _ _ _ _ _ _ _ _ _ _ _ _ _ _ _ _ _ _ _ _ _ _)
   | (with_reducible exact ih2 _ _ _ _ _ _ _ _ _ _ _ _ _ _ _ _ _ _ _ _ _ _ _ _ _ _ _ _ _ _ _ _ _ _ _ _ _ _ _ _ _ _ _ _ _ _ _)
   | (with_reducible exact resync_Correction.mono _ _ _ _ _ _ _ _ _ _ _ _ _ _ _ _ _ _)
   | (with_reducible exact resync_Fold.mono _ _ _ _ _ _ _ _ _ _ _ _ _ _ _ _ _ _)
   | (with_reducible exact resync_Turn.mono _ _ _ _ _ _ _ _ _ _ _ _ _ _ _ _ _ _ _ _ _ _)
   | (with_reducible exact vespersref07_Check.mono _ _ _ _ _ _ _ _ _ _ _ _ _ _ _ _ _)
   | (with_reducible exact vespersref15_Correction.mono _ _ _ _ _ _ _ _ _ _ _ _ _ _ _ _ _ _)
   | (with_reducible exact vespersref15_Fold.mono _ _ _ _ _ _ _ _ _ _ _ _ _ _ _ _ _ _)
   | (with_reducible exact vespersref15_Turn.mono _ _ _ _ _ _ _ _ _ _ _ _ _ _ _ _ _ _ _ _ _ _)
   | (with_reducible exact LeO.refl _)
   | (with_reducible exact LeO.none _)
   | (with_reducible refine LeO.ite ?_ ?_)
   | (with_reducible refine LeO.bind ?_ (fun _=>?_))
   | exact ih0 _ _ _ _ _ _ _ _ _ _ _ _ _ _ _ _ _ _ _ _ _ _ _ _
   | exact ih1 _ _ _ _ _ _ _ _ _ _ _ _ _ _ _ _ _ _ _ _ _ _ _ _ _
   | exact ih2 _ _ _ _ _ _ _ _ _ _ _ _ _ _ _ _ _ _ _ _ _ _ _ _ _ _ _ _ _ _ _ _ _ _ _ _ _ _ _ _ _ _ _ _ _ _ _
   | exact resync_Correction.mono _ _ _ _ _ _ _ _ _ _ _ _ _ _ _ _ _ _
   | exact resync_Fold.mono _ _ _ _ _ _ _ _ _ _ _ _ _ _ _ _ _ _
   | exact resync_Turn.mono _ _ _ _ _ _ _ _ _ _ _ _ _ _ _ _ _ _ _ _ _ _
   | exact vespersref07_Check.mono _ _ _ _ _ _ _ _ _ _ _ _ _ _ _ _ _
   | exact vespersref15_Correction.mono _ _ _ _ _ _ _ _ _ _ _ _ _ _ _ _ _ _
   | exact vespersref15_Fold.mono _ _ _ _ _ _ _ _ _ _ _ _ _ _ _ _ _ _
   | exact vespersref15_Turn.mono _ _ _ _ _ _ _ _ _ _ _ _ _ _ _ _ _ _ _ _ _ _
   | exact LeO.none _
   | refine LeO.ite ?_ ?_
   | refine LeO.bind ?_ (fun _=>?_)
  ·intro y0 y1 y2 y3 y4 y5 y6 y7 y8 y9 y10 y11 y12 y13 y14 y15 y16 y17 y18 y19 y20 y21 y22 y23 y24
   unfold vesperslaw15_ResyncTurns.l0
   repeat' first
   | (with_reducible exact ih0 _ _ _ _ _ _ _ _ _ _ _ _ _ _ _ _ _ _ _ _ _ _ _ _)
   | (with_reducible exact ih1 _ _ _ _ _ _ _ _ _ _ _ _ _ _ _ _ _ _ _ _ _ _ _ _ _)
   | (with_reducible exact ih2 _ _ _ _ _ _ _ _ _ _ _ _ _ _ _ _ _ _ _ _ _ _ _ _ _ _ _ _ _ _ _ _ _ _ _ _ _ _ _ _ _ _ _ _ _ _ _)
   | (with_reducible exact resync_Correction.mono _ _ _ _ _ _ _ _ _ _ _ _ _ _ _ _ _ _)
   | (with_reducible exact resync_Fold.mono _ _ _ _ _ _ _ _ _ _ _ _ _ _ _ _ _ _)
   | (with_reducible exact resync_Turn.mono _ _ _ _ _ _ _ _ _ _ _ _ _ _ _ _ _ _ _ _ _ _)
   | (with_reducible exact vespersref07_Check.mono _ _ _ _ _ _ _ _ _ _ _ _ _ _ _ _ _)
   | (with_reducible exact vespersref15_Correction.mono _ _ _ _ _ _ _ _ _ _ _ _ _ _ _ _ _ _)
   | (with_reducible exact vespersref15_Fold.mono _ _ _ _ _ _ _ _ _ _ _ _ _ _ _ _ _ _)
   | (with_reducible exact vespersref15_Turn.mono _ _ _ _ _ _ _ _ _ _ _ _ _ _ _ _ _ _ _ _ _ _)
   | (with_reducible exact LeO.refl _)
   | (with_reducible exact LeO.none _)
   | (with_reducible refine LeO.ite ?_ ?_)
   | (with_reducible refine LeO.bind ?_ (fun _=>?_))
   | exact ih0 _ _ _ _ _ _ _ _ _ _ _ _ _ _ _ _ _ _ _ _ _ _ _ _
   | exact ih1 _ _ _ _ _ _ _ _ _ _ _ _ _ _ _ _ _ _ _ _ _ _ _ _ _
   | exact ih2 _ _ _ _ _ _ _ _ _ _ _ _ _ _ _ _ _ _ _ _ _ _ _ _ _ _ _ _ _ _ _ _ _ _ _ _ _ _ _ _ _ _ _ _ _ _ _
   | exact resync_Correction.mono _ _ _ _ _ _ _ _ _ _ _ _ _ _ _ _ _ _
   | exact resync_Fold.mono _ _ _ _ _ _ _ _ _ _ _ _ _ _ _ _ _ _
   | exact resync_Turn.mono _ _ _ _ _ _ _ _ _ _ _ _ _ _ _ _ _ _ _ _ _ _
   | exact vespersref07_Check.mono _ _ _ _ _ _ _ _ _ _ _ _ _ _ _ _ _
   | exact vespersref15_Correction.mono _ _ _ _ _ _ _ _ _ _ _ _ _ _ _ _ _ _
   | exact vespersref15_Fold.mono _ _ _ _ _ _ _ _ _ _ _ _ _ _ _ _ _ _
   | exact vespersref15_Turn.mono _ _ _ _ _ _ _ _ _ _ _ _ _ _ _ _ _ _ _ _ _ _
   | exact LeO.none _
   | refine LeO.ite ?_ ?_
   | refine LeO.bind ?_ (fun _=>?_)
  ·intro y0 y1 y2 y3 y4 y5 y6 y7 y8 y9 y10 y11 y12 y13 y14 y15 y16 y17 y18 y19 y20 y21 y22 y23 y24 y25 y26 y27 y28 y29 y30 y31 y32 y33 y34 y35 y36 y37 y38 y39 y40 y41 y42 y43 y44 y45 y46
   unfold vesperslaw15_ResyncTurns.l1
   repeat' first
   | (with_reducible exact ih0 _ _ _ _ _ _ _ _ _ _ _ _ _ _ _ _ _ _ _ _ _ _ _ _)
   | (with_reducible exact ih1 _ _ _ _ _ _ _ _ _ _ _ _ _ _ _ _ _ _ _ _ _ _ _ _ _)
   | (with_reducible exact ih2 _ _ _ _ _ _ _ _ _ _ _ _ _ _ _ _ _ _ _ _ _ _ _ _ _ _ _ _ _ _ _ _ _ _ _ _ _ _ _ _ _ _ _ _ _ _ _)
   | (with_reducible exact resync_Correction.mono _ _ _ _ _ _ _ _ _ _ _ _ _ _ _ _ _ _)
   | (with_reducible exact resync_Fold.mono _ _ _ _ _ _ _ _ _ _ _ _ _ _ _ _ _ _)
   | (with_reducible exact resync_Turn.mono _ _ _ _ _ _ _ _ _ _ _ _ _ _ _ _ _ _ _ _ _ _)
   | (with_reducible exact vespersref07_Check.mono _ _ _ _ _ _ _ _ _ _ _ _ _ _ _ _ _)
   | (with_reducible exact vespersref15_Correction.mono _ _ _ _ _ _ _ _ _ _ _ _ _ _ _ _ _ _)
   | (with_reducible exact vespersref15_Fold.mono _ _ _ _ _ _ _ _ _ _ _ _ _ _ _ _ _ _)
   | (with_reducible exact vespersref15_Turn.mono _ _ _ _ _ _ _ _ _ _ _ _ _ _ _ _ _ _ _ _ _ _)
   | (with_reducible exact LeO.refl _)
   | (with_reducible exact LeO.none _)
   | (with_reducible refine LeO.ite ?_ ?_)
   | (with_reducible refine LeO.bind ?_ (fun _=>?_))
   | exact ih0 _ _ _ _ _ _ _ _ _ _ _ _ _ _ _ _ _ _ _ _ _ _ _ _
   | exact ih1 _ _ _ _ _ _ _ _ _ _ _ _ _ _ _ _ _ _ _ _ _ _ _ _ _
   | exact ih2 _ _ _ _ _ _ _ _ _ _ _ _ _ _ _ _ _ _ _ _ _ _ _ _ _ _ _ _ _ _ _ _ _ _ _ _ _ _ _ _ _ _ _ _ _ _ _
   | exact resync_Correction.mono _ _ _ _ _ _ _ _ _ _ _ _ _ _ _ _ _ _
   | exact resync_Fold.mono _ _ _ _ _ _ _ _ _ _ _ _ _ _ _ _ _ _
   | exact resync_Turn.mono _ _ _ _ _ _ _ _ _ _ _ _ _ _ _ _ _ _ _ _ _ _
   | exact vespersref07_Check.mono _ _ _ _ _ _ _ _ _ _ _ _ _ _ _ _ _
   | exact vespersref15_Correction.mono _ _ _ _ _ _ _ _ _ _ _ _ _ _ _ _ _ _
   | exact vespersref15_Fold.mono _ _ _ _ _ _ _ _ _ _ _ _ _ _ _ _ _ _
   | exact vespersref15_Turn.mono _ _ _ _ _ _ _ _ _ _ _ _ _ _ _ _ _ _ _ _ _ _
   | exact LeO.none _
   | refine LeO.ite ?_ ?_
   | refine LeO.bind ?_ (fun _=>?_)
theorem vesperslaw15_ResyncTurns.mono : ∀ a0 a1 a2 a3 a4 a5 a6 a7 a8 a9 a10 a11 a12 a13 a14 a15 a16 a17 a18 a19 a20 a21 a22 k,LeO (vesperslaw15_ResyncTurns.f k a0 a1 a2 a3 a4 a5 a6 a7 a8 a9 a10 a11 a12 a13 a14 a15 a16 a17 a18 a19 a20 a21 a22) (vesperslaw15_ResyncTurns.f (k + 1) a0 a1 a2 a3 a4 a5 a6 a7 a8 a9 a10 a11 a12 a13 a14 a15 a16 a17 a18 a19 a20 a21 a22):=by
 intro a0 a1 a2 a3 a4 a5 a6 a7 a8 a9 a10 a11 a12 a13 a14 a15 a16 a17 a18 a19 a20 a21 a22 k
 obtain ⟨ih0,ih1,ih2⟩:=vesperslaw15_ResyncTurns.mono_l k
 unfold vesperslaw15_ResyncTurns.f
 repeat' first
   | (with_reducible exact ih0 _ _ _ _ _ _ _ _ _ _ _ _ _ _ _ _ _ _ _ _ _ _ _ _)
   | (with_reducible exact ih1 _ _ _ _ _ _ _ _ _ _ _ _ _ _ _ _ _ _ _ _ _ _ _ _ _)
   | (with_reducible exact ih2 _ _ _ _ _ _ _ _ _ _ _ _ _ _ _ _ _ _ _ _ _ _ _ _ _ _ _ _ _ _ _ _ _ _ _ _ _ _ _ _ _ _ _ _ _ _ _)
   | (with_reducible exact resync_Correction.mono _ _ _ _ _ _ _ _ _ _ _ _ _ _ _ _ _ _)
   | (with_reducible exact resync_Fold.mono _ _ _ _ _ _ _ _ _ _ _ _ _ _ _ _ _ _)
   | (with_reducible exact resync_Turn.mono _ _ _ _ _ _ _ _ _ _ _ _ _ _ _ _ _ _ _ _ _ _)
   | (with_reducible exact vespersref07_Check.mono _ _ _ _ _ _ _ _ _ _ _ _ _ _ _ _ _)
   | (with_reducible exact vespersref15_Correction.mono _ _ _ _ _ _ _ _ _ _ _ _ _ _ _ _ _ _)
   | (with_reducible exact vespersref15_Fold.mono _ _ _ _ _ _ _ _ _ _ _ _ _ _ _ _ _ _)
   | (with_reducible exact vespersref15_Turn.mono _ _ _ _ _ _ _ _ _ _ _ _ _ _ _ _ _ _ _ _ _ _)
   | (with_reducible exact LeO.refl _)
   | (with_reducible exact LeO.none _)
   | (with_reducible refine LeO.ite ?_ ?_)
   | (with_reducible refine LeO.bind ?_ (fun _=>?_))
   | exact ih0 _ _ _ _ _ _ _ _ _ _ _ _ _ _ _ _ _ _ _ _ _ _ _ _
   | exact ih1 _ _ _ _ _ _ _ _ _ _ _ _ _ _ _ _ _ _ _ _ _ _ _ _ _
   | exact ih2 _ _ _ _ _ _ _ _ _ _ _ _ _ _ _ _ _ _ _ _ _ _ _ _ _ _ _ _ _ _ _ _ _ _ _ _ _ _ _ _ _ _ _ _ _ _ _
   | exact resync_Correction.mono _ _ _ _ _ _ _ _ _ _ _ _ _ _ _ _ _ _
   | exact resync_Fold.mono _ _ _ _ _ _ _ _ _ _ _ _ _ _ _ _ _ _
   | exact resync_Turn.mono _ _ _ _ _ _ _ _ _ _ _ _ _ _ _ _ _ _ _ _ _ _
   | exact vespersref07_Check.mono _ _ _ _ _ _ _ _ _ _ _ _ _ _ _ _ _
   | exact vespersref15_Correction.mono _ _ _ _ _ _ _ _ _ _ _ _ _ _ _ _ _ _
   | exact vespersref15_Fold.mono _ _ _ _ _ _ _ _ _ _ _ _ _ _ _ _ _ _
   | exact vespersref15_Turn.mono _ _ _ _ _ _ _ _ _ _ _ _ _ _ _ _ _ _ _ _ _ _
   | exact LeO.none _
   | refine LeO.ite ?_ ?_
   | refine LeO.bind ?_ (fun _=>?_)
set_option maxHeartbeats 8000000 in
set_option maxRecDepth 100000 in
theorem vesperslaw15_ResyncTurns.calls (k : Nat) (Qn : Int) (Qm : Int) (Qo : Int) (Qp : Int) (Qq : Int) (Qr : Int) (Qs : Int) (Qt : Int) (Qu : Int) (Qv : Int) (Qf : Int) (Qg : Int) (Qh : Int) (Qi : Int) (Qj : Int) (Qk : Int) (QL : Int) (QM : Int) (QN : Int) (QO : Bool) (A2 : Option Addr) (c2 : Nat) (l2 : List Int) (A3 : Option Addr) (c3 : Nat) (l3 : List (List Int)) (a4 : Int) (r : Bool) (w : World) (hr2 : Kd.C (Kd.int .i64) w A2 l2.length l2) (hc2 : l2.length ≤ c2) (hr3 : Kd.C (Kd.slice 2 (Kd.int .i64)) w A3 l3.length l3) (hc3 : l3.length ≤ c3) (h : vesperslaw15_ResyncTurns.f k Qn Qm Qo Qp Qq Qr Qs Qt Qu Qv Qf Qg Qh Qi Qj Qk QL QM QN QO l2 l3 a4 = some r) :
  Calls Try.prog 3 #[.agg #[.int .i64 Qn,.int .i64 Qm,.int .i64 Qo,.int .i64 Qp,.int .i64 Qq,.int .i64 Qr,.int .i64 Qs,.int .i64 Qt,.int .i64 Qu,.int .i64 Qv,.int .i64 Qf,.int .i64 Qg,.int .i64 Qh,.int .i64 Qi,.int .i64 Qj,.int .i64 Qk],.agg #[.int .i64 QL,.int .i64 QM,.int .i64 QN,.bool QO],.slice A2 l2.length c2,.slice A3 l3.length c3,.int .i64 a4] w fun e w'=>e = .returned (.bool r)∧Below w.heap.size w w':=by
 have hu23:=Try.underlying23
 have hu25:=Try.underlying25
 have HR2:=Aside0.mk hr2
 have HC2:=Aside0.mk hc2
 clear hr2 hc2
 have HR3:=Aside0.mk hr3
 have HC3:=Aside0.mk hc3
 clear hr3 hc3
 have HB:=Aside0.mk (Below.refl w.heap.size w)
 have H : (if (l2.length : Int) > 50 then (vesperslaw15_ResyncTurns.j0 k l2 l3 a4 true Qn Qm Qo Qp Qq Qr Qs Qt Qu Qv Qf Qg Qh Qi Qj Qk QL QM QN QO) else (vesperslaw15_ResyncTurns.j0 k l2 l3 a4 (decide ((l3.length : Int) > 20)) Qn Qm Qo Qp Qq Qr Qs Qt Qu Qv Qf Qg Qh Qi Qj Qk QL QM QN QO)) = some r:=h
 clear h
 have HC6:=Aside0.mk H
 clear H
 go_enter Try.func3,Try.ntmps3
 go_upto_region 1 with (first|((with_reducible refine gate_dst (N:=5) rfl ?_);(try (refine gate_guard (by rfl) ?_;dsimp only));refine box_event ?hg (N:=5) ?hd (cs:=#[.int .i64 Qn,.int .i64 Qm,.int .i64 Qo,.int .i64 Qp,.int .i64 Qq,.int .i64 Qr,.int .i64 Qs,.int .i64 Qt,.int .i64 Qu,.int .i64 Qv,.int .i64 Qf,.int .i64 Qg,.int .i64 Qh,.int .i64 Qi,.int .i64 Qj,.int .i64 Qk]) (t:=23) ?hr ?_;(case hd=>rfl);(case hg=>rfl);(case hr=>first|(go_simp;done)|(go_simp;rfl));intro QD hg w7 hbox hb;have n0_:=ks_ HB hb;have n1_:=Aside0.mk (hbox);have n2_:=Aside0.mk ((by rw [hg];exact (kz_ HB) : w.heap.size ≤ QD));have n3_:=Aside0.mk ((by rw [hg];exact (kz_ HB) : w.heap.size ≤ QD));clear HB;have HB:=n0_;have Qa:=n1_;have GW112:=n2_;have Zi:=n3_;clear n0_ n1_ n2_ n3_;clear hb hbox hg)|((with_reducible refine gate_dst (N:=6) rfl ?_);(try (refine gate_guard (by rfl) ?_;dsimp only));refine box_event ?hg (N:=6) ?hd (cs:=#[.int .i64 QL,.int .i64 QM,.int .i64 QN,.bool QO]) (t:=25) ?hr ?_;(case hd=>rfl);(case hg=>rfl);(case hr=>first|(go_simp;done)|(go_simp;rfl));intro QE hg w8 hbox hb;have n0_:=kb_ Qa hb;have n1_:=ks_ HB hb;have n2_:=Aside0.mk (hbox);have n3_:=Aside0.mk ((by rw [hg];exact (kz_ HB) : w.heap.size ≤ QE));have n4_:=Aside0.mk ((by rw [hg];exact (kz_ HB) : w.heap.size ≤ QE));have n5_:=nl_ Qa hg;have n6_:=ng_ Qa hg;clear Qa;clear HB;have Qa:=n0_;have HB:=n1_;have Qb:=n2_;have GW113:=n3_;have Zj:=n4_;have Zu:=n5_;have Zv:=n6_;clear n0_ n1_ n2_ n3_ n4_ n5_ n6_;clear hb hbox hg))
 repeat (go_quiet (first|((with_reducible refine gate_dst (N:=5) rfl ?_);(try (refine gate_guard (by rfl) ?_;dsimp only));refine box_event ?hg (N:=5) ?hd (cs:=#[.int .i64 Qn,.int .i64 Qm,.int .i64 Qo,.int .i64 Qp,.int .i64 Qq,.int .i64 Qr,.int .i64 Qs,.int .i64 Qt,.int .i64 Qu,.int .i64 Qv,.int .i64 Qf,.int .i64 Qg,.int .i64 Qh,.int .i64 Qi,.int .i64 Qj,.int .i64 Qk]) (t:=23) ?hr ?_;(case hd=>rfl);(case hg=>rfl);(case hr=>first|(go_simp;done)|(go_simp;rfl));intro QD hg w7 hbox hb;have n0_:=ks_ HB hb;have n1_:=Aside0.mk (hbox);have n2_:=Aside0.mk ((by rw [hg];exact (kz_ HB) : w.heap.size ≤ QD));have n3_:=Aside0.mk ((by rw [hg];exact (kz_ HB) : w.heap.size ≤ QD));clear HB;have HB:=n0_;have Qa:=n1_;have GW112:=n2_;have Zi:=n3_;clear n0_ n1_ n2_ n3_;clear hb hbox hg)|((with_reducible refine gate_dst (N:=6) rfl ?_);(try (refine gate_guard (by rfl) ?_;dsimp only));refine box_event ?hg (N:=6) ?hd (cs:=#[.int .i64 QL,.int .i64 QM,.int .i64 QN,.bool QO]) (t:=25) ?hr ?_;(case hd=>rfl);(case hg=>rfl);(case hr=>first|(go_simp;done)|(go_simp;rfl));intro QE hg w8 hbox hb;have n0_:=kb_ Qa hb;have n1_:=ks_ HB hb;have n2_:=Aside0.mk (hbox);have n3_:=Aside0.mk ((by rw [hg];exact (kz_ HB) : w.heap.size ≤ QE));have n4_:=Aside0.mk ((by rw [hg];exact (kz_ HB) : w.heap.size ≤ QE));have n5_:=nl_ Qa hg;have n6_:=ng_ Qa hg;clear Qa;clear HB;have Qa:=n0_;have HB:=n1_;have Qb:=n2_;have GW113:=n3_;have Zj:=n4_;have Zu:=n5_;have Zv:=n6_;clear n0_ n1_ n2_ n3_ n4_ n5_ n6_;clear hb hbox hg));go_upto_region 1 with (first|((with_reducible refine gate_dst (N:=5) rfl ?_);(try (refine gate_guard (by rfl) ?_;dsimp only));refine box_event ?hg (N:=5) ?hd (cs:=#[.int .i64 Qn,.int .i64 Qm,.int .i64 Qo,.int .i64 Qp,.int .i64 Qq,.int .i64 Qr,.int .i64 Qs,.int .i64 Qt,.int .i64 Qu,.int .i64 Qv,.int .i64 Qf,.int .i64 Qg,.int .i64 Qh,.int .i64 Qi,.int .i64 Qj,.int .i64 Qk]) (t:=23) ?hr ?_;(case hd=>rfl);(case hg=>rfl);(case hr=>first|(go_simp;done)|(go_simp;rfl));intro QD hg w7 hbox hb;have n0_:=ks_ HB hb;have n1_:=Aside0.mk (hbox);have n2_:=Aside0.mk ((by rw [hg];exact (kz_ HB) : w.heap.size ≤ QD));have n3_:=Aside0.mk ((by rw [hg];exact (kz_ HB) : w.heap.size ≤ QD));clear HB;have HB:=n0_;have Qa:=n1_;have GW112:=n2_;have Zi:=n3_;clear n0_ n1_ n2_ n3_;clear hb hbox hg)|((with_reducible refine gate_dst (N:=6) rfl ?_);(try (refine gate_guard (by rfl) ?_;dsimp only));refine box_event ?hg (N:=6) ?hd (cs:=#[.int .i64 QL,.int .i64 QM,.int .i64 QN,.bool QO]) (t:=25) ?hr ?_;(case hd=>rfl);(case hg=>rfl);(case hr=>first|(go_simp;done)|(go_simp;rfl));intro QE hg w8 hbox hb;have n0_:=kb_ Qa hb;have n1_:=ks_ HB hb;have n2_:=Aside0.mk (hbox);have n3_:=Aside0.mk ((by rw [hg];exact (kz_ HB) : w.heap.size ≤ QE));have n4_:=Aside0.mk ((by rw [hg];exact (kz_ HB) : w.heap.size ≤ QE));have n5_:=nl_ Qa hg;have n6_:=ng_ Qa hg;clear Qa;clear HB;have Qa:=n0_;have HB:=n1_;have Qb:=n2_;have GW113:=n3_;have Zj:=n4_;have Zu:=n5_;have Zv:=n6_;clear n0_ n1_ n2_ n3_ n4_ n5_ n6_;clear hb hbox hg)))
 (try simp only [Act.put,List.setIfInBounds_toArray,List.set_cons_zero,List.set_cons_succ])
 go_cut [36] (fun v36 wc=>∃ (kq : Nat) (x36_5 : Bool),v36 = .bool x36_5∧Aside0 (vesperslaw15_ResyncTurns.j0 kq l2 l3 a4 x36_5 Qn Qm Qo Qp Qq Qr Qs Qt Qu Qv Qf Qg Qh Qi Qj Qk QL QM QN QO = some r)∧Aside0 (kq ≤ k)∧Aside0 (wc.heap[QD]? = some (.cells #[.int .i64 Qn,.int .i64 Qm,.int .i64 Qo,.int .i64 Qp,.int .i64 Qq,.int .i64 Qr,.int .i64 Qs,.int .i64 Qt,.int .i64 Qu,.int .i64 Qv,.int .i64 Qf,.int .i64 Qg,.int .i64 Qh,.int .i64 Qi,.int .i64 Qj,.int .i64 Qk] 23 (0,0)))∧Aside0 (wc.heap[QE]? = some (.cells #[.int .i64 QL,.int .i64 QM,.int .i64 QN,.bool QO] 25 (0,0)))∧Aside0 (Below w.heap.size w wc))
 case first=>as_aux_lemma =>
  have H:=HC6.out
  clear HC6
  by_cases c9 : (l2.length : Int) > 50
  ·rw [if_pos c9] at H
   have c9b0 : decide (50 < (l2.length : Int)) = true:=decide_eq_true c9
   have c9b1 : decide (50 < l2.length) = true:=decide_eq_true (by omega)
   clear c9
   (first|rw [c9b0]|(simp only [i64_w,i32_w];rw [c9b0])|skip)
   have H':=Aside0.mk H
   clear H
   go_wp2
   repeat (go_quiet (fail);try go_wp2)
   go_meet
   case rel=>exact ⟨_,(true),(by first|rfl|(simp;done)|(simp [*];done)),H',⟨by first|omega|exact Nat.le_refl _⟩,⟨by (with_reducible repeat (first|refine blk_drewN ?_ _|refine blk_drew ?_|refine blk_alloc ?_ _));exact Qa.out⟩,⟨by (with_reducible repeat (first|refine blk_drewN ?_ _|refine blk_drew ?_|refine blk_alloc ?_ _));exact Qb.out⟩,⟨by repeat (first|(with_reducible first|exact HB.out|apply below_alloc|apply pw_below_drewN|apply below_drew1|refine below_set ?_ Zi.out|refine below_set ?_ Zj.out)|exact HB.out)⟩⟩
  ·rw [if_neg c9] at H
   have c9b0 : decide (50 < (l2.length : Int)) = false:=decide_eq_false c9
   have c9b1 : decide (50 < l2.length) = false:=decide_eq_false (by omega)
   clear c9
   (first|rw [c9b0]|(simp only [i64_w,i32_w];rw [c9b0])|skip)
   have H':=Aside0.mk H
   clear H
   go_wp2
   repeat (go_quiet (fail);try go_wp2)
   go_meet
   case rel=>exact ⟨_,(decide ((l3.length : Int) > 20)),(by first|rfl|(simp;done)|(simp [*];done)),H',⟨by first|omega|exact Nat.le_refl _⟩,⟨by (with_reducible repeat (first|refine blk_drewN ?_ _|refine blk_drew ?_|refine blk_alloc ?_ _));exact Qa.out⟩,⟨by (with_reducible repeat (first|refine blk_drewN ?_ _|refine blk_drew ?_|refine blk_alloc ?_ _));exact Qb.out⟩,⟨by repeat (first|(with_reducible first|exact HB.out|apply below_alloc|apply pw_below_drewN|apply below_drew1|refine below_set ?_ Zi.out|refine below_set ?_ Zj.out)|exact HB.out)⟩⟩
 case rest=>as_aux_lemma =>
  clear HC6
  try clear c2
  try clear p2
  try clear c3
  try clear c9
  try clear c9b0
  try clear c9b1
  obtain ⟨kq,x36_5,rfl,HA,HJ5,Qa,Qb,HB⟩:=hcut
  cases kq with
  | zero=>exact absurd HA.out (by simp [vesperslaw15_ResyncTurns.j0])
  | succ kj5 =>
   have H:=HA.out
   clear HA
   simp only [vesperslaw15_ResyncTurns.j0] at H
   by_cases c10 : x36_5 = true
   ·subst c10
    have H1 : (some true) = some r:=by rw [if_pos rfl] at H;exact H
    clear H
    have H:=H1
    clear H1
    obtain rfl:=Option.some.inj H
    go_wp2
    repeat (go_quiet (fail);try go_wp2)
    go_ret
    exact ⟨by first|rfl|(simp [errW_none,errW_some] <;> rfl)|(simp [*,errW_none,errW_some] <;> rfl),by repeat (first|(with_reducible first|exact HB.out|apply below_alloc|apply pw_below_drewN|apply below_drew1|refine below_set ?_ Zi.out|refine below_set ?_ Zj.out)|exact HB.out)⟩
   ·as_aux_lemma =>
     replace c10:=Bool.eq_false_iff.mpr c10
     subst c10
     have H1 : (vesperslaw15_ResyncTurns.l0 kj5 l2 l3 a4 (l3.length : Int) 0 Qn Qm Qo Qp Qq Qr Qs Qt Qu Qv Qf Qg Qh Qi Qj Qk QL QM QN QO) = some r:=by rw [if_neg (show ¬ (false = true) by decide)] at H;exact H
     clear H
     have H:=H1
     clear H1
     have H':=Aside0.mk H
     clear H
     go_wp2
     repeat (go_quiet (fail);try go_wp2)
     go_loopg [39] kj5 (fun kq v39 w'=>∃ (Zn : Int),v39 = .int .i64 Zn∧Aside0 (vesperslaw15_ResyncTurns.l0 kq l2 l3 a4 (l3.length : Int) Zn Qn Qm Qo Qp Qq Qr Qs Qt Qu Qv Qf Qg Qh Qi Qj Qk QL QM QN QO = some r)∧Aside0 (kq ≤ kj5)∧Aside0 (w'.heap[QD]? = some (.cells #[.int .i64 Qn,.int .i64 Qm,.int .i64 Qo,.int .i64 Qp,.int .i64 Qq,.int .i64 Qr,.int .i64 Qs,.int .i64 Qt,.int .i64 Qu,.int .i64 Qv,.int .i64 Qf,.int .i64 Qg,.int .i64 Qh,.int .i64 Qi,.int .i64 Qj,.int .i64 Qk] 23 (0,0)))∧Aside0 (w'.heap[QE]? = some (.cells #[.int .i64 QL,.int .i64 QM,.int .i64 QN,.bool QO] 25 (0,0)))∧Aside0 (Below w.heap.size w w'))
     case atStart=>exact ⟨(0),(by first|rfl|(simp;done)|(simp [*];done)),H',⟨Nat.le_refl _⟩,⟨by (with_reducible repeat (first|refine blk_drewN ?_ _|refine blk_drew ?_|refine blk_alloc ?_ _));exact Qa.out⟩,⟨by (with_reducible repeat (first|refine blk_drewN ?_ _|refine blk_drew ?_|refine blk_alloc ?_ _));exact Qb.out⟩,⟨by repeat (first|(with_reducible first|exact HB.out|apply below_alloc|apply pw_below_drewN|apply below_drew1|refine below_set ?_ Zi.out|refine below_set ?_ Zj.out)|exact HB.out)⟩⟩
     case round =>
      clear H'
      try clear c1
      try clear c2
      try clear p2
      try clear c3
      try clear c9
      try clear c9b0
      try clear c9b1
      try clear c10
      try clear p2
      obtain ⟨Zn,rfl,HA,HK2,Qa,Qb,HB⟩:=hrel
      cases gk with
      | zero=>exact absurd HA.out (by simp [vesperslaw15_ResyncTurns.l0])
      | succ k2 =>
       have H:=HA.out
       clear HA
       simp only [vesperslaw15_ResyncTurns.l0] at H
       by_cases c11 : Zn < (l3.length : Int)
       ·as_aux_lemma =>
         rw [if_pos c11] at H
         have c11b0 : decide (Zn < (l3.length : Int)) = true:=decide_eq_true c11
         clear c11
         by_cases c12 : 0 ≤ Zn
         ·as_aux_lemma =>
           rw [if_pos c12] at H
           have c12b0 : decide (0 ≤ Zn) = true:=decide_eq_true c12
           clear c12
           by_cases c13 : Zn < (l3.length : Int)
           ·as_aux_lemma =>
             rw [if_pos c13] at H
             have c13b0 : decide (Zn < (l3.length : Int)) = true:=decide_eq_true c13
             clear c13
             by_cases c14 : ((rd_L2 l3 Zn).length : Int) > 50
             ·as_aux_lemma =>
               rw [if_pos c14] at H
               have c14b0 : decide (50 < ((rd_L2 l3 Zn).length : Int)) = true:=decide_eq_true c14
               have c14b1 : decide (50 < (rd_L2 l3 Zn).length) = true:=decide_eq_true (by omega)
               clear c14
               obtain rfl:=Option.some.inj H
               have p114 : 0 ≤ (Zn : Int):=of_decide_eq_true (by first|(with_reducible assumption)|assumption)
               have q114 : Zn < (l3.length : Int):=of_decide_eq_true (by first|(with_reducible assumption)|assumption)
               obtain ⟨ad114,A114_0,c114_0,e114,hx114_0,hl114_0,hi114_0⟩:=at_L2 HR3.out Zn p114 q114
               cases e114
               replace hx114_0:=(HB.out.cell (World.block_lt_of_cell? w _ hx114_0)).trans hx114_0
               have HR114_0:=Aside0.mk hi114_0
               have HC114_0:=Aside0.mk hl114_0
               clear hi114_0 hl114_0
               replace p114:=eq_true p114
               replace q114:=eq_true q114
               go_wp2
               repeat (go_quiet (fail);try go_wp2)
               go_ret
               exact ⟨by first|rfl|(simp [errW_none,errW_some] <;> rfl)|(simp [*,errW_none,errW_some] <;> rfl),by repeat (first|(with_reducible first|exact HB.out|apply below_alloc|apply pw_below_drewN|apply below_drew1|refine below_set ?_ Zi.out|refine below_set ?_ Zj.out)|exact HB.out)⟩
             ·as_aux_lemma =>
               rw [if_neg c14] at H
               have c14b0 : decide (50 < ((rd_L2 l3 Zn).length : Int)) = false:=decide_eq_false c14
               have c14b1 : decide (50 < (rd_L2 l3 Zn).length) = false:=decide_eq_false (by omega)
               clear c14
               have H':=Aside0.mk H
               clear H
               have p114 : 0 ≤ (Zn : Int):=of_decide_eq_true (by first|(with_reducible assumption)|assumption)
               have q114 : Zn < (l3.length : Int):=of_decide_eq_true (by first|(with_reducible assumption)|assumption)
               obtain ⟨ad114,A114_0,c114_0,e114,hx114_0,hl114_0,hi114_0⟩:=at_L2 HR3.out Zn p114 q114
               cases e114
               replace hx114_0:=(HB.out.cell (World.block_lt_of_cell? w _ hx114_0)).trans hx114_0
               have HR114_0:=Aside0.mk hi114_0
               have HC114_0:=Aside0.mk hl114_0
               clear hi114_0 hl114_0
               replace p114:=eq_true p114
               replace q114:=eq_true q114
               go_wp2
               repeat (go_quiet (fail);try go_wp2)
               go_roundg k2
               case measure=>have:=HJ5.out;have:=HK2.out;omega
               case rel=>exact ⟨(wrap64 (Zn + 1)),(by first|rfl|(simp;done)|(simp [*];done)),H',⟨by have:=HJ5.out;have:=HK2.out;omega⟩,⟨by (with_reducible repeat (first|refine blk_drewN ?_ _|refine blk_drew ?_|refine blk_alloc ?_ _));exact Qa.out⟩,⟨by (with_reducible repeat (first|refine blk_drewN ?_ _|refine blk_drew ?_|refine blk_alloc ?_ _));exact Qb.out⟩,⟨by repeat (first|(with_reducible first|exact HB.out|apply below_alloc|apply pw_below_drewN|apply below_drew1|refine below_set ?_ Zi.out|refine below_set ?_ Zj.out)|exact HB.out)⟩⟩
           ·rw [if_neg c13] at H
            exact absurd H (by simp)
         ·rw [if_neg c12] at H
          exact absurd H (by simp)
       ·as_aux_lemma =>
         rw [if_neg c11] at H
         have c11b0 : decide (Zn < (l3.length : Int)) = false:=decide_eq_false c11
         clear c11
         obtain ⟨ZZ,hy115⟩ : ∃ y_ : List Int,y_ = (([] : List Int)):=⟨_,rfl⟩
         replace H : (if ZZ.length + l2.length < 17592186044416 then ((some (ZZ++l2 : List Int)).bind fun QK=>((resync_Correction.f k2 Qn Qm Qo Qp Qq Qr Qs Qt Qu Qv Qf Qg Qh Qi Qj Qk QK).bind fun ZY=>((vespersref15_Correction.f k2 Qn Qm Qo Qp Qq Qr Qs Qt Qu Qv Qf Qg Qh Qi Qj Qk l2).bind fun ZN=>((resync_Turn.f k2 Qn Qm Qo Qp Qq Qr Qs Qt Qu Qv Qf Qg Qh Qi Qj Qk QL QM QN QO QK).bind fun QJ=>((vespersref15_Turn.f k2 Qn Qm Qo Qp Qq Qr Qs Qt Qu Qv Qf Qg Qh Qi Qj Qk QL QM QN QO l2).bind fun QB=>((resync_Fold.f k2 Qn Qm Qo Qp Qq Qr Qs Qt Qu Qv Qf Qg Qh Qi Qj Qk l3).bind fun QC=>((vespersref15_Fold.f k2 Qn Qm Qo Qp Qq Qr Qs Qt Qu Qv Qf Qg Qh Qi Qj Qk l3).bind fun QA=>(vesperslaw15_ResyncTurns.l1 k2 l2 a4 QK ZY.1 ZY.2 ZN.1 ZN.2 QJ.2.2.2.2.1 QJ.2.2.2.2.2 QB.2.2.2.2.1 QB.2.2.2.2.2 QC.2.2.2.2 QA.2.2.2.2 (QK.length : Int) 0 Qn Qm Qo Qp Qq Qr Qs Qt Qu Qv Qf Qg Qh Qi Qj Qk QJ.1 QJ.2.1 QJ.2.2.1 QJ.2.2.2.1 QB.1 QB.2.1 QB.2.2.1 QB.2.2.2.1 QC.1 QC.2.1 QC.2.2.1 QC.2.2.2.1 QA.1 QA.2.1 QA.2.2.1 QA.2.2.2.1)))))))) else (none)) = some r:=by first|(rw [hy115];with_reducible exact H)|(have H2_:=(Option.bind_some _ _).symm.trans H;rw [hy115];with_reducible exact H2_)|(have H2_:=(Option.bind_some _ _).symm.trans H;with_reducible exact H2_)|with_reducible exact H|(rw [hy115];exact H)|exact H
         have Ny115:=Aside0.mk hy115
         clear hy115
         by_cases c15 : ZZ.length + l2.length < 17592186044416
         ·as_aux_lemma =>
           rw [if_pos c15] at H
           have LMc15:=Aside0.mk c15
           clear c15
           obtain ⟨QK,hy118⟩ : ∃ y_ : List Int,y_ = (ZZ++l2):=⟨_,rfl⟩
           replace H : ((resync_Correction.f k2 Qn Qm Qo Qp Qq Qr Qs Qt Qu Qv Qf Qg Qh Qi Qj Qk QK).bind fun ZY=>((vespersref15_Correction.f k2 Qn Qm Qo Qp Qq Qr Qs Qt Qu Qv Qf Qg Qh Qi Qj Qk l2).bind fun ZN=>((resync_Turn.f k2 Qn Qm Qo Qp Qq Qr Qs Qt Qu Qv Qf Qg Qh Qi Qj Qk QL QM QN QO QK).bind fun QJ=>((vespersref15_Turn.f k2 Qn Qm Qo Qp Qq Qr Qs Qt Qu Qv Qf Qg Qh Qi Qj Qk QL QM QN QO l2).bind fun QB=>((resync_Fold.f k2 Qn Qm Qo Qp Qq Qr Qs Qt Qu Qv Qf Qg Qh Qi Qj Qk l3).bind fun QC=>((vespersref15_Fold.f k2 Qn Qm Qo Qp Qq Qr Qs Qt Qu Qv Qf Qg Qh Qi Qj Qk l3).bind fun QA=>(vesperslaw15_ResyncTurns.l1 k2 l2 a4 QK ZY.1 ZY.2 ZN.1 ZN.2 QJ.2.2.2.2.1 QJ.2.2.2.2.2 QB.2.2.2.2.1 QB.2.2.2.2.2 QC.2.2.2.2 QA.2.2.2.2 (QK.length : Int) 0 Qn Qm Qo Qp Qq Qr Qs Qt Qu Qv Qf Qg Qh Qi Qj Qk QJ.1 QJ.2.1 QJ.2.2.1 QJ.2.2.2.1 QB.1 QB.2.1 QB.2.2.1 QB.2.2.2.1 QC.1 QC.2.1 QC.2.2.1 QC.2.2.2.1 QA.1 QA.2.1 QA.2.2.1 QA.2.2.2.1))))))) = some r:=by first|(rw [hy118];with_reducible exact H)|(have H2_:=(Option.bind_some _ _).symm.trans H;rw [hy118];with_reducible exact H2_)|(have H2_:=(Option.bind_some _ _).symm.trans H;with_reducible exact H2_)|with_reducible exact H|(rw [hy118];exact H)|exact H
           have Ny118:=Aside0.mk hy118
           clear hy118
           replace H:=Option.bind_eq_some_iff.mp H
           obtain ⟨⟨ZL,ZM⟩,A160,H⟩:=H
           replace H : ((vespersref15_Correction.f k2 Qn Qm Qo Qp Qq Qr Qs Qt Qu Qv Qf Qg Qh Qi Qj Qk l2).bind fun ZN=>((resync_Turn.f k2 Qn Qm Qo Qp Qq Qr Qs Qt Qu Qv Qf Qg Qh Qi Qj Qk QL QM QN QO QK).bind fun QJ=>((vespersref15_Turn.f k2 Qn Qm Qo Qp Qq Qr Qs Qt Qu Qv Qf Qg Qh Qi Qj Qk QL QM QN QO l2).bind fun QB=>((resync_Fold.f k2 Qn Qm Qo Qp Qq Qr Qs Qt Qu Qv Qf Qg Qh Qi Qj Qk l3).bind fun QC=>((vespersref15_Fold.f k2 Qn Qm Qo Qp Qq Qr Qs Qt Qu Qv Qf Qg Qh Qi Qj Qk l3).bind fun QA=>(vesperslaw15_ResyncTurns.l1 k2 l2 a4 QK ZL ZM ZN.1 ZN.2 QJ.2.2.2.2.1 QJ.2.2.2.2.2 QB.2.2.2.2.1 QB.2.2.2.2.2 QC.2.2.2.2 QA.2.2.2.2 (QK.length : Int) 0 Qn Qm Qo Qp Qq Qr Qs Qt Qu Qv Qf Qg Qh Qi Qj Qk QJ.1 QJ.2.1 QJ.2.2.1 QJ.2.2.2.1 QB.1 QB.2.1 QB.2.2.1 QB.2.2.2.1 QC.1 QC.2.1 QC.2.2.1 QC.2.2.2.1 QA.1 QA.2.1 QA.2.2.1 QA.2.2.2.1)))))) = some r:=H
           have A16:=Aside0.mk A160
           clear A160
           replace H:=Option.bind_eq_some_iff.mp H
           obtain ⟨⟨ZO,ZP⟩,A170,H⟩:=H
           replace H : ((resync_Turn.f k2 Qn Qm Qo Qp Qq Qr Qs Qt Qu Qv Qf Qg Qh Qi Qj Qk QL QM QN QO QK).bind fun QJ=>((vespersref15_Turn.f k2 Qn Qm Qo Qp Qq Qr Qs Qt Qu Qv Qf Qg Qh Qi Qj Qk QL QM QN QO l2).bind fun QB=>((resync_Fold.f k2 Qn Qm Qo Qp Qq Qr Qs Qt Qu Qv Qf Qg Qh Qi Qj Qk l3).bind fun QC=>((vespersref15_Fold.f k2 Qn Qm Qo Qp Qq Qr Qs Qt Qu Qv Qf Qg Qh Qi Qj Qk l3).bind fun QA=>(vesperslaw15_ResyncTurns.l1 k2 l2 a4 QK ZL ZM ZO ZP QJ.2.2.2.2.1 QJ.2.2.2.2.2 QB.2.2.2.2.1 QB.2.2.2.2.2 QC.2.2.2.2 QA.2.2.2.2 (QK.length : Int) 0 Qn Qm Qo Qp Qq Qr Qs Qt Qu Qv Qf Qg Qh Qi Qj Qk QJ.1 QJ.2.1 QJ.2.2.1 QJ.2.2.2.1 QB.1 QB.2.1 QB.2.2.1 QB.2.2.2.1 QC.1 QC.2.1 QC.2.2.1 QC.2.2.2.1 QA.1 QA.2.1 QA.2.2.1 QA.2.2.2.1))))) = some r:=H
           have A17:=Aside0.mk A170
           clear A170
           replace H:=Option.bind_eq_some_iff.mp H
           obtain ⟨⟨Zh,Zm,Zq,Zt,ZQ,ZR⟩,A180,H⟩:=H
           replace H : ((vespersref15_Turn.f k2 Qn Qm Qo Qp Qq Qr Qs Qt Qu Qv Qf Qg Qh Qi Qj Qk QL QM QN QO l2).bind fun QB=>((resync_Fold.f k2 Qn Qm Qo Qp Qq Qr Qs Qt Qu Qv Qf Qg Qh Qi Qj Qk l3).bind fun QC=>((vespersref15_Fold.f k2 Qn Qm Qo Qp Qq Qr Qs Qt Qu Qv Qf Qg Qh Qi Qj Qk l3).bind fun QA=>(vesperslaw15_ResyncTurns.l1 k2 l2 a4 QK ZL ZM ZO ZP ZQ ZR QB.2.2.2.2.1 QB.2.2.2.2.2 QC.2.2.2.2 QA.2.2.2.2 (QK.length : Int) 0 Qn Qm Qo Qp Qq Qr Qs Qt Qu Qv Qf Qg Qh Qi Qj Qk Zh Zm Zq Zt QB.1 QB.2.1 QB.2.2.1 QB.2.2.2.1 QC.1 QC.2.1 QC.2.2.1 QC.2.2.2.1 QA.1 QA.2.1 QA.2.2.1 QA.2.2.2.1)))) = some r:=H
           have A18:=Aside0.mk A180
           clear A180
           replace H:=Option.bind_eq_some_iff.mp H
           obtain ⟨⟨Zk,Zo,Zr,Zw,ZS,ZT⟩,A190,H⟩:=H
           replace H : ((resync_Fold.f k2 Qn Qm Qo Qp Qq Qr Qs Qt Qu Qv Qf Qg Qh Qi Qj Qk l3).bind fun QC=>((vespersref15_Fold.f k2 Qn Qm Qo Qp Qq Qr Qs Qt Qu Qv Qf Qg Qh Qi Qj Qk l3).bind fun QA=>(vesperslaw15_ResyncTurns.l1 k2 l2 a4 QK ZL ZM ZO ZP ZQ ZR ZS ZT QC.2.2.2.2 QA.2.2.2.2 (QK.length : Int) 0 Qn Qm Qo Qp Qq Qr Qs Qt Qu Qv Qf Qg Qh Qi Qj Qk Zh Zm Zq Zt Zk Zo Zr Zw QC.1 QC.2.1 QC.2.2.1 QC.2.2.2.1 QA.1 QA.2.1 QA.2.2.1 QA.2.2.2.1))) = some r:=H
           have A19:=Aside0.mk A190
           clear A190
           replace H:=Option.bind_eq_some_iff.mp H
           obtain ⟨⟨Zl,Zp,Zs,ZE,ZV⟩,A200,H⟩:=H
           replace H : ((vespersref15_Fold.f k2 Qn Qm Qo Qp Qq Qr Qs Qt Qu Qv Qf Qg Qh Qi Qj Qk l3).bind fun QA=>(vesperslaw15_ResyncTurns.l1 k2 l2 a4 QK ZL ZM ZO ZP ZQ ZR ZS ZT ZV QA.2.2.2.2 (QK.length : Int) 0 Qn Qm Qo Qp Qq Qr Qs Qt Qu Qv Qf Qg Qh Qi Qj Qk Zh Zm Zq Zt Zk Zo Zr Zw Zl Zp Zs ZE QA.1 QA.2.1 QA.2.2.1 QA.2.2.2.1)) = some r:=H
           have A20:=Aside0.mk A200
           clear A200
           replace H:=Option.bind_eq_some_iff.mp H
           obtain ⟨⟨ZF,ZG,ZH,ZI,ZX⟩,A210,H⟩:=H
           replace H : (vesperslaw15_ResyncTurns.l1 k2 l2 a4 QK ZL ZM ZO ZP ZQ ZR ZS ZT ZV ZX (QK.length : Int) 0 Qn Qm Qo Qp Qq Qr Qs Qt Qu Qv Qf Qg Qh Qi Qj Qk Zh Zm Zq Zt Zk Zo Zr Zw Zl Zp Zs ZE ZF ZG ZH ZI) = some r:=H
           have A21:=Aside0.mk A210
           clear A210
           have H':=Aside0.mk H
           clear H
           as_aux_lemma =>
            go_wp2_with (first|((with_reducible refine gate_dst (N:=49) rfl ?_);(try (refine gate_guard (by rfl) ?_;dsimp only));refine Kd.R_lit (Kd.int .i64) _ 2 ?hg (N:=49) ?hd (xs:=([] : List Int)) (inner:=[]) (ok:=fun _=>True) (okp:=fun _=>True) ?hr ?hp (fun _ hk=>hk) trivial (Below.refl _ _) (Nat.le_refl _) (by simp) ?_;(case hd=>rfl);(case hg=>rfl);(case hr=>first|(go_simp;done)|(go_simp;rfl));(case hp=>exact (Reps.none _ _));intro v116 w22 ho23 hb hg_ hnew_;clear hg_ hnew_;(first|rw [← Ny115.out] at ho23|(simp only [Int.reduceToNat] at ho23;rw [← Ny115.out] at ho23));have n0_:=Aside0.mk (Kd.R_lower ho23 (kz_ HB));have n1_:=kb_ Qa hb;have n2_:=kb_ Qb hb;have n3_:=ks_ HB hb;clear Qa;clear Qb;clear HB;have HO117:=n0_;have Qa:=n1_;have Qb:=n2_;have HB:=n3_;clear n0_ n1_ n2_ n3_;clear hb ho23)|((with_reducible refine gate_builtin (b:=.append) (xs:=#[.tmp 49,.tmp 50]) rfl ?_);(try (refine gate_guard (by rfl) ?_;dsimp only));at_builtin;refine Kd.R_append_rows (Kd.int .i64) (w0:=w) w.heap.size rfl (.tmp 49) (.tmp 50) 26 2 (.int .i64 0) 8 rfl Try.underlying26 info2 rfl (by decide) (by omega) v116 ZZ l2 _ _ _ (fun _=>True) (fun _=>False) rfl rfl ?aO ?aR (fun _ _ h=>h) (fun _ h=>h.elim) ?aF ?aB ?aS ?aL ?_;(case aR=>repeat (first|exact (Kd.C_below HR2.out HB.out)|(with_reducible refine Kd.C_alloc ?_ _)|(with_reducible refine Kd.C_drewN ?_ _)|(with_reducible refine Kd.C_drew ?_)));(case aB=>exact (by repeat (first|(with_reducible first|exact HB.out|apply below_alloc|apply pw_below_drewN|apply below_drew1|refine below_set ?_ Zi.out|refine below_set ?_ Zj.out)|exact HB.out)));(case aF=>exact (fun _ _=>trivial));(case aO=>exact (by (with_reducible repeat (first|apply Kd.R_alloc|apply Kd.R_drewN|apply Kd.R_drew));exact HO117.out));(case aS=>exact (kz_ HB));(case aL=>have:=LMc15.out;omega);intro v119 w24 ho hb hg hat;rw [← Ny118.out] at ho;have n0_:=Aside0.mk (blk_grown (g:=QD) (o:=.cells #[.int .i64 Qn,.int .i64 Qm,.int .i64 Qo,.int .i64 Qp,.int .i64 Qq,.int .i64 Qr,.int .i64 Qs,.int .i64 Qt,.int .i64 Qu,.int .i64 Qv,.int .i64 Qf,.int .i64 Qg,.int .i64 Qh,.int .i64 Qi,.int .i64 Qj,.int .i64 Qk] 23 (0,0)) (by (with_reducible repeat (first|refine blk_drewN ?_ _|refine blk_drew ?_|refine blk_alloc ?_ _));exact Qa.out) hg (Kd.R_ne HO117.out Qa.out (by decide)));have n1_:=Aside0.mk (blk_grown (g:=QE) (o:=.cells #[.int .i64 QL,.int .i64 QM,.int .i64 QN,.bool QO] 25 (0,0)) (by (with_reducible repeat (first|refine blk_drewN ?_ _|refine blk_drew ?_|refine blk_alloc ?_ _));exact Qb.out) hg (Kd.R_ne HO117.out Qb.out (by decide)));have n2_:=Aside0.mk (hb);have n3_:=Aside0.mk (ho);clear Qa;clear Qb;clear HB;clear HO117;have Qa:=n0_;have Qb:=n1_;have HB:=n2_;have HO120:=n3_;clear n0_ n1_ n2_ n3_;clear ho hb hg hat;have hnb25:=Zu.out;have hnc25:=Zv.out;obtain ⟨hcz26_0,hcz26_1,hcz26_2,hcz26_3,hcz26_4,hcz26_5,hcz26_6,hcz26_7,hcz26_8,hcz26_9,hcz26_10,hcz26_11,hcz26_12,hcz26_13,hcz26_14,hcz26_15⟩:=bc16_ (w:=w24) (g:=QD) (.int .i64 Qn) (.int .i64 Qm) (.int .i64 Qo) (.int .i64 Qp) (.int .i64 Qq) (.int .i64 Qr) (.int .i64 Qs) (.int .i64 Qt) (.int .i64 Qu) (.int .i64 Qv) (.int .i64 Qf) (.int .i64 Qg) (.int .i64 Qh) (.int .i64 Qi) (.int .i64 Qj) (.int .i64 Qk) Qa.out;obtain ⟨hfz26_0,hfz26_1,hfz26_2,hfz26_3,hfz26_4,hfz26_5,hfz26_6,hfz26_7,hfz26_8,hfz26_9,hfz26_10,hfz26_11,hfz26_12,hfz26_13,hfz26_14,hfz26_15⟩:=bf16_ Qa.out;obtain ⟨Ao27,co27,eo27⟩:=Kd.R_slice HO120.out;subst eo27)|(go_at_call 7;(with_reducible refine (resync_Correction.calls k2 Qn Qm Qo Qp Qq Qr Qs Qt Qu Qv Qf Qg Qh Qi Qj Qk _ _ QK ZL ZM _ ?side1 ?side2 A16.out).mono ?_);(case side1=>repeat (first|exact (Kd.R_reads' HO120.out).2.2|(with_reducible refine Kd.C_alloc ?_ _)|(with_reducible refine Kd.C_drewN ?_ _)|(with_reducible refine Kd.C_drew ?_)));(case side2=>exact (Kd.R_reads' HO120.out).2.1);rintro e w28 ⟨rfl,hb⟩;have n0_:=kr_ HO120 hb;have n1_:=kb_ Qa hb;have n2_:=kb_ Qb hb;have n3_:=ks_ HB hb;clear HO120;clear Qa;clear Qb;clear HB;have HO120:=n0_;have Qa:=n1_;have Qb:=n2_;have HB:=n3_;clear n0_ n1_ n2_ n3_;(try clear hb);(try clear hb2);(try clear hk);(try clear hi);obtain ⟨hcz29_0,hcz29_1,hcz29_2,hcz29_3,hcz29_4,hcz29_5,hcz29_6,hcz29_7,hcz29_8,hcz29_9,hcz29_10,hcz29_11,hcz29_12,hcz29_13,hcz29_14,hcz29_15⟩:=bc16_ (w:=w28) (g:=QD) (.int .i64 Qn) (.int .i64 Qm) (.int .i64 Qo) (.int .i64 Qp) (.int .i64 Qq) (.int .i64 Qr) (.int .i64 Qs) (.int .i64 Qt) (.int .i64 Qu) (.int .i64 Qv) (.int .i64 Qf) (.int .i64 Qg) (.int .i64 Qh) (.int .i64 Qi) (.int .i64 Qj) (.int .i64 Qk) Qa.out;obtain ⟨hfz29_0,hfz29_1,hfz29_2,hfz29_3,hfz29_4,hfz29_5,hfz29_6,hfz29_7,hfz29_8,hfz29_9,hfz29_10,hfz29_11,hfz29_12,hfz29_13,hfz29_14,hfz29_15⟩:=bf16_ Qa.out)|(go_at_call 8;(with_reducible refine (vespersref15_Correction.calls k2 Qn Qm Qo Qp Qq Qr Qs Qt Qu Qv Qf Qg Qh Qi Qj Qk _ _ l2 ZO ZP _ ?side1 ?side2 A17.out).mono ?_);(case side1=>repeat (first|exact (Kd.C_below HR2.out HB.out)|(with_reducible refine Kd.C_alloc ?_ _)|(with_reducible refine Kd.C_drewN ?_ _)|(with_reducible refine Kd.C_drew ?_)));(case side2=>exact HC2.out);rintro e w30 ⟨rfl,hb⟩;have n0_:=kr_ HO120 hb;have n1_:=kb_ Qa hb;have n2_:=kb_ Qb hb;have n3_:=ks_ HB hb;clear HO120;clear Qa;clear Qb;clear HB;have HO120:=n0_;have Qa:=n1_;have Qb:=n2_;have HB:=n3_;clear n0_ n1_ n2_ n3_;(try clear hb);(try clear hb2);(try clear hk);(try clear hi);obtain ⟨hcz31_0,hcz31_1,hcz31_2,hcz31_3,hcz31_4,hcz31_5,hcz31_6,hcz31_7,hcz31_8,hcz31_9,hcz31_10,hcz31_11,hcz31_12,hcz31_13,hcz31_14,hcz31_15⟩:=bc16_ (w:=w30) (g:=QD) (.int .i64 Qn) (.int .i64 Qm) (.int .i64 Qo) (.int .i64 Qp) (.int .i64 Qq) (.int .i64 Qr) (.int .i64 Qs) (.int .i64 Qt) (.int .i64 Qu) (.int .i64 Qv) (.int .i64 Qf) (.int .i64 Qg) (.int .i64 Qh) (.int .i64 Qi) (.int .i64 Qj) (.int .i64 Qk) Qa.out;obtain ⟨hfz31_0,hfz31_1,hfz31_2,hfz31_3,hfz31_4,hfz31_5,hfz31_6,hfz31_7,hfz31_8,hfz31_9,hfz31_10,hfz31_11,hfz31_12,hfz31_13,hfz31_14,hfz31_15⟩:=bf16_ Qa.out;have hcz32_0 : w30.cell? ⟨QE,0,none⟩ = some (.int .i64 QL):=(blk_cell Qb.out 0).trans rfl;have hcz32_1 : w30.cell? ⟨QE,1,none⟩ = some (.int .i64 QM):=(blk_cell Qb.out 1).trans rfl;have hcz32_2 : w30.cell? ⟨QE,2,none⟩ = some (.int .i64 QN):=(blk_cell Qb.out 2).trans rfl;have hcz32_3 : w30.cell? ⟨QE,3,none⟩ = some (.bool QO):=(blk_cell Qb.out 3).trans rfl;have hfz32_0:=blk_frozen Qb.out 0;have hfz32_1:=blk_frozen Qb.out 1;have hfz32_2:=blk_frozen Qb.out 2;have hfz32_3:=blk_frozen Qb.out 3))
            repeat (go_quiet (first|((with_reducible refine gate_dst (N:=49) rfl ?_);(try (refine gate_guard (by rfl) ?_;dsimp only));refine Kd.R_lit (Kd.int .i64) _ 2 ?hg (N:=49) ?hd (xs:=([] : List Int)) (inner:=[]) (ok:=fun _=>True) (okp:=fun _=>True) ?hr ?hp (fun _ hk=>hk) trivial (Below.refl _ _) (Nat.le_refl _) (by simp) ?_;(case hd=>rfl);(case hg=>rfl);(case hr=>first|(go_simp;done)|(go_simp;rfl));(case hp=>exact (Reps.none _ _));intro v116 w22 ho23 hb hg_ hnew_;clear hg_ hnew_;(first|rw [← Ny115.out] at ho23|(simp only [Int.reduceToNat] at ho23;rw [← Ny115.out] at ho23));have n0_:=Aside0.mk (Kd.R_lower ho23 (kz_ HB));have n1_:=kb_ Qa hb;have n2_:=kb_ Qb hb;have n3_:=ks_ HB hb;clear Qa;clear Qb;clear HB;have HO117:=n0_;have Qa:=n1_;have Qb:=n2_;have HB:=n3_;clear n0_ n1_ n2_ n3_;clear hb ho23)|((with_reducible refine gate_builtin (b:=.append) (xs:=#[.tmp 49,.tmp 50]) rfl ?_);(try (refine gate_guard (by rfl) ?_;dsimp only));at_builtin;refine Kd.R_append_rows (Kd.int .i64) (w0:=w) w.heap.size rfl (.tmp 49) (.tmp 50) 26 2 (.int .i64 0) 8 rfl Try.underlying26 info2 rfl (by decide) (by omega) v116 ZZ l2 _ _ _ (fun _=>True) (fun _=>False) rfl rfl ?aO ?aR (fun _ _ h=>h) (fun _ h=>h.elim) ?aF ?aB ?aS ?aL ?_;(case aR=>repeat (first|exact (Kd.C_below HR2.out HB.out)|(with_reducible refine Kd.C_alloc ?_ _)|(with_reducible refine Kd.C_drewN ?_ _)|(with_reducible refine Kd.C_drew ?_)));(case aB=>exact (by repeat (first|(with_reducible first|exact HB.out|apply below_alloc|apply pw_below_drewN|apply below_drew1|refine below_set ?_ Zi.out|refine below_set ?_ Zj.out)|exact HB.out)));(case aF=>exact (fun _ _=>trivial));(case aO=>exact (by (with_reducible repeat (first|apply Kd.R_alloc|apply Kd.R_drewN|apply Kd.R_drew));exact HO117.out));(case aS=>exact (kz_ HB));(case aL=>have:=LMc15.out;omega);intro v119 w24 ho hb hg hat;rw [← Ny118.out] at ho;have n0_:=Aside0.mk (blk_grown (g:=QD) (o:=.cells #[.int .i64 Qn,.int .i64 Qm,.int .i64 Qo,.int .i64 Qp,.int .i64 Qq,.int .i64 Qr,.int .i64 Qs,.int .i64 Qt,.int .i64 Qu,.int .i64 Qv,.int .i64 Qf,.int .i64 Qg,.int .i64 Qh,.int .i64 Qi,.int .i64 Qj,.int .i64 Qk] 23 (0,0)) (by (with_reducible repeat (first|refine blk_drewN ?_ _|refine blk_drew ?_|refine blk_alloc ?_ _));exact Qa.out) hg (Kd.R_ne HO117.out Qa.out (by decide)));have n1_:=Aside0.mk (blk_grown (g:=QE) (o:=.cells #[.int .i64 QL,.int .i64 QM,.int .i64 QN,.bool QO] 25 (0,0)) (by (with_reducible repeat (first|refine blk_drewN ?_ _|refine blk_drew ?_|refine blk_alloc ?_ _));exact Qb.out) hg (Kd.R_ne HO117.out Qb.out (by decide)));have n2_:=Aside0.mk (hb);have n3_:=Aside0.mk (ho);clear Qa;clear Qb;clear HB;clear HO117;have Qa:=n0_;have Qb:=n1_;have HB:=n2_;have HO120:=n3_;clear n0_ n1_ n2_ n3_;clear ho hb hg hat;have hnb25:=Zu.out;have hnc25:=Zv.out;obtain ⟨hcz26_0,hcz26_1,hcz26_2,hcz26_3,hcz26_4,hcz26_5,hcz26_6,hcz26_7,hcz26_8,hcz26_9,hcz26_10,hcz26_11,hcz26_12,hcz26_13,hcz26_14,hcz26_15⟩:=bc16_ (w:=w24) (g:=QD) (.int .i64 Qn) (.int .i64 Qm) (.int .i64 Qo) (.int .i64 Qp) (.int .i64 Qq) (.int .i64 Qr) (.int .i64 Qs) (.int .i64 Qt) (.int .i64 Qu) (.int .i64 Qv) (.int .i64 Qf) (.int .i64 Qg) (.int .i64 Qh) (.int .i64 Qi) (.int .i64 Qj) (.int .i64 Qk) Qa.out;obtain ⟨hfz26_0,hfz26_1,hfz26_2,hfz26_3,hfz26_4,hfz26_5,hfz26_6,hfz26_7,hfz26_8,hfz26_9,hfz26_10,hfz26_11,hfz26_12,hfz26_13,hfz26_14,hfz26_15⟩:=bf16_ Qa.out;obtain ⟨Ao27,co27,eo27⟩:=Kd.R_slice HO120.out;subst eo27)|(go_at_call 7;(with_reducible refine (resync_Correction.calls k2 Qn Qm Qo Qp Qq Qr Qs Qt Qu Qv Qf Qg Qh Qi Qj Qk _ _ QK ZL ZM _ ?side1 ?side2 A16.out).mono ?_);(case side1=>repeat (first|exact (Kd.R_reads' HO120.out).2.2|(with_reducible refine Kd.C_alloc ?_ _)|(with_reducible refine Kd.C_drewN ?_ _)|(with_reducible refine Kd.C_drew ?_)));(case side2=>exact (Kd.R_reads' HO120.out).2.1);rintro e w28 ⟨rfl,hb⟩;have n0_:=kr_ HO120 hb;have n1_:=kb_ Qa hb;have n2_:=kb_ Qb hb;have n3_:=ks_ HB hb;clear HO120;clear Qa;clear Qb;clear HB;have HO120:=n0_;have Qa:=n1_;have Qb:=n2_;have HB:=n3_;clear n0_ n1_ n2_ n3_;(try clear hb);(try clear hb2);(try clear hk);(try clear hi);obtain ⟨hcz29_0,hcz29_1,hcz29_2,hcz29_3,hcz29_4,hcz29_5,hcz29_6,hcz29_7,hcz29_8,hcz29_9,hcz29_10,hcz29_11,hcz29_12,hcz29_13,hcz29_14,hcz29_15⟩:=bc16_ (w:=w28) (g:=QD) (.int .i64 Qn) (.int .i64 Qm) (.int .i64 Qo) (.int .i64 Qp) (.int .i64 Qq) (.int .i64 Qr) (.int .i64 Qs) (.int .i64 Qt) (.int .i64 Qu) (.int .i64 Qv) (.int .i64 Qf) (.int .i64 Qg) (.int .i64 Qh) (.int .i64 Qi) (.int .i64 Qj) (.int .i64 Qk) Qa.out;obtain ⟨hfz29_0,hfz29_1,hfz29_2,hfz29_3,hfz29_4,hfz29_5,hfz29_6,hfz29_7,hfz29_8,hfz29_9,hfz29_10,hfz29_11,hfz29_12,hfz29_13,hfz29_14,hfz29_15⟩:=bf16_ Qa.out)|(go_at_call 8;(with_reducible refine (vespersref15_Correction.calls k2 Qn Qm Qo Qp Qq Qr Qs Qt Qu Qv Qf Qg Qh Qi Qj Qk _ _ l2 ZO ZP _ ?side1 ?side2 A17.out).mono ?_);(case side1=>repeat (first|exact (Kd.C_below HR2.out HB.out)|(with_reducible refine Kd.C_alloc ?_ _)|(with_reducible refine Kd.C_drewN ?_ _)|(with_reducible refine Kd.C_drew ?_)));(case side2=>exact HC2.out);rintro e w30 ⟨rfl,hb⟩;have n0_:=kr_ HO120 hb;have n1_:=kb_ Qa hb;have n2_:=kb_ Qb hb;have n3_:=ks_ HB hb;clear HO120;clear Qa;clear Qb;clear HB;have HO120:=n0_;have Qa:=n1_;have Qb:=n2_;have HB:=n3_;clear n0_ n1_ n2_ n3_;(try clear hb);(try clear hb2);(try clear hk);(try clear hi);obtain ⟨hcz31_0,hcz31_1,hcz31_2,hcz31_3,hcz31_4,hcz31_5,hcz31_6,hcz31_7,hcz31_8,hcz31_9,hcz31_10,hcz31_11,hcz31_12,hcz31_13,hcz31_14,hcz31_15⟩:=bc16_ (w:=w30) (g:=QD) (.int .i64 Qn) (.int .i64 Qm) (.int .i64 Qo) (.int .i64 Qp) (.int .i64 Qq) (.int .i64 Qr) (.int .i64 Qs) (.int .i64 Qt) (.int .i64 Qu) (.int .i64 Qv) (.int .i64 Qf) (.int .i64 Qg) (.int .i64 Qh) (.int .i64 Qi) (.int .i64 Qj) (.int .i64 Qk) Qa.out;obtain ⟨hfz31_0,hfz31_1,hfz31_2,hfz31_3,hfz31_4,hfz31_5,hfz31_6,hfz31_7,hfz31_8,hfz31_9,hfz31_10,hfz31_11,hfz31_12,hfz31_13,hfz31_14,hfz31_15⟩:=bf16_ Qa.out;have hcz32_0 : w30.cell? ⟨QE,0,none⟩ = some (.int .i64 QL):=(blk_cell Qb.out 0).trans rfl;have hcz32_1 : w30.cell? ⟨QE,1,none⟩ = some (.int .i64 QM):=(blk_cell Qb.out 1).trans rfl;have hcz32_2 : w30.cell? ⟨QE,2,none⟩ = some (.int .i64 QN):=(blk_cell Qb.out 2).trans rfl;have hcz32_3 : w30.cell? ⟨QE,3,none⟩ = some (.bool QO):=(blk_cell Qb.out 3).trans rfl;have hfz32_0:=blk_frozen Qb.out 0;have hfz32_1:=blk_frozen Qb.out 1;have hfz32_2:=blk_frozen Qb.out 2;have hfz32_3:=blk_frozen Qb.out 3));try go_wp2_with (first|((with_reducible refine gate_dst (N:=49) rfl ?_);(try (refine gate_guard (by rfl) ?_;dsimp only));refine Kd.R_lit (Kd.int .i64) _ 2 ?hg (N:=49) ?hd (xs:=([] : List Int)) (inner:=[]) (ok:=fun _=>True) (okp:=fun _=>True) ?hr ?hp (fun _ hk=>hk) trivial (Below.refl _ _) (Nat.le_refl _) (by simp) ?_;(case hd=>rfl);(case hg=>rfl);(case hr=>first|(go_simp;done)|(go_simp;rfl));(case hp=>exact (Reps.none _ _));intro v116 w22 ho23 hb hg_ hnew_;clear hg_ hnew_;(first|rw [← Ny115.out] at ho23|(simp only [Int.reduceToNat] at ho23;rw [← Ny115.out] at ho23));have n0_:=Aside0.mk (Kd.R_lower ho23 (kz_ HB));have n1_:=kb_ Qa hb;have n2_:=kb_ Qb hb;have n3_:=ks_ HB hb;clear Qa;clear Qb;clear HB;have HO117:=n0_;have Qa:=n1_;have Qb:=n2_;have HB:=n3_;clear n0_ n1_ n2_ n3_;clear hb ho23)|((with_reducible refine gate_builtin (b:=.append) (xs:=#[.tmp 49,.tmp 50]) rfl ?_);(try (refine gate_guard (by rfl) ?_;dsimp only));at_builtin;refine Kd.R_append_rows (Kd.int .i64) (w0:=w) w.heap.size rfl (.tmp 49) (.tmp 50) 26 2 (.int .i64 0) 8 rfl Try.underlying26 info2 rfl (by decide) (by omega) v116 ZZ l2 _ _ _ (fun _=>True) (fun _=>False) rfl rfl ?aO ?aR (fun _ _ h=>h) (fun _ h=>h.elim) ?aF ?aB ?aS ?aL ?_;(case aR=>repeat (first|exact (Kd.C_below HR2.out HB.out)|(with_reducible refine Kd.C_alloc ?_ _)|(with_reducible refine Kd.C_drewN ?_ _)|(with_reducible refine Kd.C_drew ?_)));(case aB=>exact (by repeat (first|(with_reducible first|exact HB.out|apply below_alloc|apply pw_below_drewN|apply below_drew1|refine below_set ?_ Zi.out|refine below_set ?_ Zj.out)|exact HB.out)));(case aF=>exact (fun _ _=>trivial));(case aO=>exact (by (with_reducible repeat (first|apply Kd.R_alloc|apply Kd.R_drewN|apply Kd.R_drew));exact HO117.out));(case aS=>exact (kz_ HB));(case aL=>have:=LMc15.out;omega);intro v119 w24 ho hb hg hat;rw [← Ny118.out] at ho;have n0_:=Aside0.mk (blk_grown (g:=QD) (o:=.cells #[.int .i64 Qn,.int .i64 Qm,.int .i64 Qo,.int .i64 Qp,.int .i64 Qq,.int .i64 Qr,.int .i64 Qs,.int .i64 Qt,.int .i64 Qu,.int .i64 Qv,.int .i64 Qf,.int .i64 Qg,.int .i64 Qh,.int .i64 Qi,.int .i64 Qj,.int .i64 Qk] 23 (0,0)) (by (with_reducible repeat (first|refine blk_drewN ?_ _|refine blk_drew ?_|refine blk_alloc ?_ _));exact Qa.out) hg (Kd.R_ne HO117.out Qa.out (by decide)));have n1_:=Aside0.mk (blk_grown (g:=QE) (o:=.cells #[.int .i64 QL,.int .i64 QM,.int .i64 QN,.bool QO] 25 (0,0)) (by (with_reducible repeat (first|refine blk_drewN ?_ _|refine blk_drew ?_|refine blk_alloc ?_ _));exact Qb.out) hg (Kd.R_ne HO117.out Qb.out (by decide)));have n2_:=Aside0.mk (hb);have n3_:=Aside0.mk (ho);clear Qa;clear Qb;clear HB;clear HO117;have Qa:=n0_;have Qb:=n1_;have HB:=n2_;have HO120:=n3_;clear n0_ n1_ n2_ n3_;clear ho hb hg hat;have hnb25:=Zu.out;have hnc25:=Zv.out;obtain ⟨hcz26_0,hcz26_1,hcz26_2,hcz26_3,hcz26_4,hcz26_5,hcz26_6,hcz26_7,hcz26_8,hcz26_9,hcz26_10,hcz26_11,hcz26_12,hcz26_13,hcz26_14,hcz26_15⟩:=bc16_ (w:=w24) (g:=QD) (.int .i64 Qn) (.int .i64 Qm) (.int .i64 Qo) (.int .i64 Qp) (.int .i64 Qq) (.int .i64 Qr) (.int .i64 Qs) (.int .i64 Qt) (.int .i64 Qu) (.int .i64 Qv) (.int .i64 Qf) (.int .i64 Qg) (.int .i64 Qh) (.int .i64 Qi) (.int .i64 Qj) (.int .i64 Qk) Qa.out;obtain ⟨hfz26_0,hfz26_1,hfz26_2,hfz26_3,hfz26_4,hfz26_5,hfz26_6,hfz26_7,hfz26_8,hfz26_9,hfz26_10,hfz26_11,hfz26_12,hfz26_13,hfz26_14,hfz26_15⟩:=bf16_ Qa.out;obtain ⟨Ao27,co27,eo27⟩:=Kd.R_slice HO120.out;subst eo27)|(go_at_call 7;(with_reducible refine (resync_Correction.calls k2 Qn Qm Qo Qp Qq Qr Qs Qt Qu Qv Qf Qg Qh Qi Qj Qk _ _ QK ZL ZM _ ?side1 ?side2 A16.out).mono ?_);(case side1=>repeat (first|exact (Kd.R_reads' HO120.out).2.2|(with_reducible refine Kd.C_alloc ?_ _)|(with_reducible refine Kd.C_drewN ?_ _)|(with_reducible refine Kd.C_drew ?_)));(case side2=>exact (Kd.R_reads' HO120.out).2.1);rintro e w28 ⟨rfl,hb⟩;have n0_:=kr_ HO120 hb;have n1_:=kb_ Qa hb;have n2_:=kb_ Qb hb;have n3_:=ks_ HB hb;clear HO120;clear Qa;clear Qb;clear HB;have HO120:=n0_;have Qa:=n1_;have Qb:=n2_;have HB:=n3_;clear n0_ n1_ n2_ n3_;(try clear hb);(try clear hb2);(try clear hk);(try clear hi);obtain ⟨hcz29_0,hcz29_1,hcz29_2,hcz29_3,hcz29_4,hcz29_5,hcz29_6,hcz29_7,hcz29_8,hcz29_9,hcz29_10,hcz29_11,hcz29_12,hcz29_13,hcz29_14,hcz29_15⟩:=bc16_ (w:=w28) (g:=QD) (.int .i64 Qn) (.int .i64 Qm) (.int .i64 Qo) (.int .i64 Qp) (.int .i64 Qq) (.int .i64 Qr) (.int .i64 Qs) (.int .i64 Qt) (.int .i64 Qu) (.int .i64 Qv) (.int .i64 Qf) (.int .i64 Qg) (.int .i64 Qh) (.int .i64 Qi) (.int .i64 Qj) (.int .i64 Qk) Qa.out;obtain ⟨hfz29_0,hfz29_1,hfz29_2,hfz29_3,hfz29_4,hfz29_5,hfz29_6,hfz29_7,hfz29_8,hfz29_9,hfz29_10,hfz29_11,hfz29_12,hfz29_13,hfz29_14,hfz29_15⟩:=bf16_ Qa.out)|(go_at_call 8;(with_reducible refine (vespersref15_Correction.calls k2 Qn Qm Qo Qp Qq Qr Qs Qt Qu Qv Qf Qg Qh Qi Qj Qk _ _ l2 ZO ZP _ ?side1 ?side2 A17.out).mono ?_);(case side1=>repeat (first|exact (Kd.C_below HR2.out HB.out)|(with_reducible refine Kd.C_alloc ?_ _)|(with_reducible refine Kd.C_drewN ?_ _)|(with_reducible refine Kd.C_drew ?_)));(case side2=>exact HC2.out);rintro e w30 ⟨rfl,hb⟩;have n0_:=kr_ HO120 hb;have n1_:=kb_ Qa hb;have n2_:=kb_ Qb hb;have n3_:=ks_ HB hb;clear HO120;clear Qa;clear Qb;clear HB;have HO120:=n0_;have Qa:=n1_;have Qb:=n2_;have HB:=n3_;clear n0_ n1_ n2_ n3_;(try clear hb);(try clear hb2);(try clear hk);(try clear hi);obtain ⟨hcz31_0,hcz31_1,hcz31_2,hcz31_3,hcz31_4,hcz31_5,hcz31_6,hcz31_7,hcz31_8,hcz31_9,hcz31_10,hcz31_11,hcz31_12,hcz31_13,hcz31_14,hcz31_15⟩:=bc16_ (w:=w30) (g:=QD) (.int .i64 Qn) (.int .i64 Qm) (.int .i64 Qo) (.int .i64 Qp) (.int .i64 Qq) (.int .i64 Qr) (.int .i64 Qs) (.int .i64 Qt) (.int .i64 Qu) (.int .i64 Qv) (.int .i64 Qf) (.int .i64 Qg) (.int .i64 Qh) (.int .i64 Qi) (.int .i64 Qj) (.int .i64 Qk) Qa.out;obtain ⟨hfz31_0,hfz31_1,hfz31_2,hfz31_3,hfz31_4,hfz31_5,hfz31_6,hfz31_7,hfz31_8,hfz31_9,hfz31_10,hfz31_11,hfz31_12,hfz31_13,hfz31_14,hfz31_15⟩:=bf16_ Qa.out;have hcz32_0 : w30.cell? ⟨QE,0,none⟩ = some (.int .i64 QL):=(blk_cell Qb.out 0).trans rfl;have hcz32_1 : w30.cell? ⟨QE,1,none⟩ = some (.int .i64 QM):=(blk_cell Qb.out 1).trans rfl;have hcz32_2 : w30.cell? ⟨QE,2,none⟩ = some (.int .i64 QN):=(blk_cell Qb.out 2).trans rfl;have hcz32_3 : w30.cell? ⟨QE,3,none⟩ = some (.bool QO):=(blk_cell Qb.out 3).trans rfl;have hfz32_0:=blk_frozen Qb.out 0;have hfz32_1:=blk_frozen Qb.out 1;have hfz32_2:=blk_frozen Qb.out 2;have hfz32_3:=blk_frozen Qb.out 3)))
            as_aux_lemma =>
             go_wp2_with (first|(go_at_call 9;(with_reducible refine (resync_Turn.calls k2 Qn Qm Qo Qp Qq Qr Qs Qt Qu Qv Qf Qg Qh Qi Qj Qk QL QM QN QO _ _ QK Zh Zm Zq Zt ZQ ZR _ ?side1 ?side2 A18.out).mono ?_);(case side1=>repeat (first|exact (Kd.R_reads' HO120.out).2.2|(with_reducible refine Kd.C_alloc ?_ _)|(with_reducible refine Kd.C_drewN ?_ _)|(with_reducible refine Kd.C_drew ?_)));(case side2=>exact (Kd.R_reads' HO120.out).2.1);rintro e w33 ⟨rfl,hb⟩;have n0_:=kr_ HO120 hb;have n1_:=kb_ Qa hb;have n2_:=kb_ Qb hb;have n3_:=ks_ HB hb;clear HO120;clear Qa;clear Qb;clear HB;have HO120:=n0_;have Qa:=n1_;have Qb:=n2_;have HB:=n3_;clear n0_ n1_ n2_ n3_;(try clear hb);(try clear hb2);(try clear hk);(try clear hi))|((with_reducible refine gate_dst (N:=17) rfl ?_);(try (refine gate_guard (by rfl) ?_;dsimp only));refine box_event ?hg (N:=17) ?hd (cs:=#[.int .i64 0,.int .i64 0,.int .i64 0,.bool false]) (t:=25) ?hr ?_;(case hd=>rfl);(case hg=>rfl);(case hr=>first|(go_simp;done)|(go_simp;rfl));intro Qw hg w34 hbox hb;have n0_:=kr_ HO120 hb;have n1_:=kb_ Qa hb;have n2_:=kb_ Qb hb;have n3_:=ks_ HB hb;have n4_:=Aside0.mk (hbox);have n5_:=Aside0.mk ((by rw [hg];exact (kz_ HB) : w.heap.size ≤ Qw));have n6_:=Aside0.mk ((by rw [hg];exact (kz_ HB) : w.heap.size ≤ Qw));have n7_:=nl_ Qa hg;have n8_:=ng_ Qa hg;have n9_:=nl_ Qb hg;have n10_:=ng_ Qb hg;clear HO120;clear Qa;clear Qb;clear HB;have HO120:=n0_;have Qa:=n1_;have Qb:=n2_;have HB:=n3_;have Qc:=n4_;have GW131:=n5_;have ZJ:=n6_;have Zx:=n7_;have Zy:=n8_;have QP:=n9_;have QQ:=n10_;clear n0_ n1_ n2_ n3_ n4_ n5_ n6_ n7_ n8_ n9_ n10_;clear hb hbox hg;have hnb35:=Zy.out;have hnc35:=Zx.out;have hnb36:=QQ.out;have hnc36:=QP.out;have hcz37_0 : w34.cell? ⟨Qw,0,none⟩ = some (.int .i64 0):=(blk_cell Qc.out 0).trans rfl;have hcz37_1 : w34.cell? ⟨Qw,1,none⟩ = some (.int .i64 0):=(blk_cell Qc.out 1).trans rfl;have hcz37_2 : w34.cell? ⟨Qw,2,none⟩ = some (.int .i64 0):=(blk_cell Qc.out 2).trans rfl;have hcz37_3 : w34.cell? ⟨Qw,3,none⟩ = some (.bool false):=(blk_cell Qc.out 3).trans rfl;have hfz37_0:=blk_frozen Qc.out 0;have hfz37_1:=blk_frozen Qc.out 1;have hfz37_2:=blk_frozen Qc.out 2;have hfz37_3:=blk_frozen Qc.out 3;obtain ⟨hcz38_0,hcz38_1,hcz38_2,hcz38_3,hcz38_4,hcz38_5,hcz38_6,hcz38_7,hcz38_8,hcz38_9,hcz38_10,hcz38_11,hcz38_12,hcz38_13,hcz38_14,hcz38_15⟩:=bc16_ (w:=w34) (g:=QD) (.int .i64 Qn) (.int .i64 Qm) (.int .i64 Qo) (.int .i64 Qp) (.int .i64 Qq) (.int .i64 Qr) (.int .i64 Qs) (.int .i64 Qt) (.int .i64 Qu) (.int .i64 Qv) (.int .i64 Qf) (.int .i64 Qg) (.int .i64 Qh) (.int .i64 Qi) (.int .i64 Qj) (.int .i64 Qk) Qa.out;obtain ⟨hfz38_0,hfz38_1,hfz38_2,hfz38_3,hfz38_4,hfz38_5,hfz38_6,hfz38_7,hfz38_8,hfz38_9,hfz38_10,hfz38_11,hfz38_12,hfz38_13,hfz38_14,hfz38_15⟩:=bf16_ Qa.out;have hcz39_0 : w34.cell? ⟨QE,0,none⟩ = some (.int .i64 QL):=(blk_cell Qb.out 0).trans rfl;have hcz39_1 : w34.cell? ⟨QE,1,none⟩ = some (.int .i64 QM):=(blk_cell Qb.out 1).trans rfl;have hcz39_2 : w34.cell? ⟨QE,2,none⟩ = some (.int .i64 QN):=(blk_cell Qb.out 2).trans rfl;have hcz39_3 : w34.cell? ⟨QE,3,none⟩ = some (.bool QO):=(blk_cell Qb.out 3).trans rfl;have hfz39_0:=blk_frozen Qb.out 0;have hfz39_1:=blk_frozen Qb.out 1;have hfz39_2:=blk_frozen Qb.out 2;have hfz39_3:=blk_frozen Qb.out 3)|(go_at_call 10;(with_reducible refine (vespersref15_Turn.calls k2 Qn Qm Qo Qp Qq Qr Qs Qt Qu Qv Qf Qg Qh Qi Qj Qk QL QM QN QO _ _ l2 Zk Zo Zr Zw ZS ZT _ ?side1 ?side2 A19.out).mono ?_);(case side1=>exact Kd.C_below HR2.out (by repeat (first|(with_reducible first|exact HB.out|apply below_alloc|apply pw_below_drewN|apply below_drew1|refine below_set ?_ Zi.out|refine below_set ?_ Zj.out|refine below_set ?_ ZJ.out)|exact HB.out)));(case side2=>exact HC2.out);rintro e w40 ⟨rfl,hb⟩;have n0_:=Aside0.mk (Kd.R_below (by (with_reducible repeat (first|apply Kd.R_alloc|apply Kd.R_drewN|apply Kd.R_drew));exact (rf4_ (g:=Qw) (Kd.R_types HO120.out Qc.out (by decide)))) hb);have n1_:=kb_ Qa hb;have n2_:=kb_ Qb hb;have n3_:=Aside0.mk (blk_below (g:=Qw) (o:=.cells #[.int .i64 Zh,.int .i64 Zm,.int .i64 Zq,.bool Zt] 25 (0,0)) (by (with_reducible repeat (first|refine blk_drewN ?_ _|refine blk_drew ?_|refine blk_alloc ?_ _));refine blk_put (cs:=#[.int .i64 Zh,.int .i64 Zm,.int .i64 Zq,.bool false]) ?_ 3 _ rfl;(with_reducible repeat (first|refine blk_drewN ?_ _|refine blk_drew ?_|refine blk_alloc ?_ _));refine blk_put (cs:=#[.int .i64 Zh,.int .i64 Zm,.int .i64 0,.bool false]) ?_ 2 _ rfl;(with_reducible repeat (first|refine blk_drewN ?_ _|refine blk_drew ?_|refine blk_alloc ?_ _));refine blk_put (cs:=#[.int .i64 Zh,.int .i64 0,.int .i64 0,.bool false]) ?_ 1 _ rfl;(with_reducible repeat (first|refine blk_drewN ?_ _|refine blk_drew ?_|refine blk_alloc ?_ _));refine blk_put (cs:=#[.int .i64 0,.int .i64 0,.int .i64 0,.bool false]) ?_ 0 _ rfl;(with_reducible repeat (first|refine blk_drewN ?_ _|refine blk_drew ?_|refine blk_alloc ?_ _));exact Qc.out) hb);have n4_:=ks_ HB hb;clear HO120;clear Qa;clear Qb;clear Qc;clear HB;have HO120:=n0_;have Qa:=n1_;have Qb:=n2_;have Qc:=n3_;have HB:=n4_;clear n0_ n1_ n2_ n3_ n4_;(try clear hb);(try clear hb2);(try clear hk);(try clear hi))|((with_reducible refine gate_dst (N:=20) rfl ?_);(try (refine gate_guard (by rfl) ?_;dsimp only));refine box_event ?hg (N:=20) ?hd (cs:=#[.int .i64 0,.int .i64 0,.int .i64 0,.bool false]) (t:=25) ?hr ?_;(case hd=>rfl);(case hg=>rfl);(case hr=>first|(go_simp;done)|(go_simp;rfl));intro Qx hg w41 hbox hb;have n0_:=kr_ HO120 hb;have n1_:=kb_ Qa hb;have n2_:=kb_ Qb hb;have n3_:=kb_ Qc hb;have n4_:=ks_ HB hb;have n5_:=Aside0.mk (hbox);have n6_:=Aside0.mk ((by rw [hg];exact (kz_ HB) : w.heap.size ≤ Qx));have n7_:=Aside0.mk ((by rw [hg];exact (kz_ HB) : w.heap.size ≤ Qx));have n8_:=nl_ Qa hg;have n9_:=ng_ Qa hg;have n10_:=nl_ Qb hg;have n11_:=ng_ Qb hg;have n12_:=nl_ Qc hg;have n13_:=ng_ Qc hg;clear HO120;clear Qa;clear Qb;clear Qc;clear HB;have HO120:=n0_;have Qa:=n1_;have Qb:=n2_;have Qc:=n3_;have HB:=n4_;have Qd:=n5_;have GW138:=n6_;have ZK:=n7_;have Zz:=n8_;have ZA:=n9_;have QR:=n10_;have QS:=n11_;have QT:=n12_;have QU:=n13_;clear n0_ n1_ n2_ n3_ n4_ n5_ n6_ n7_ n8_ n9_ n10_ n11_ n12_ n13_;clear hb hbox hg;have hnb42:=ZA.out;have hnc42:=Zz.out;have hnb43:=QS.out;have hnc43:=QR.out;have hnb44:=QU.out;have hnc44:=QT.out;have hcz45_0 : w41.cell? ⟨Qx,0,none⟩ = some (.int .i64 0):=(blk_cell Qd.out 0).trans rfl;have hcz45_1 : w41.cell? ⟨Qx,1,none⟩ = some (.int .i64 0):=(blk_cell Qd.out 1).trans rfl;have hcz45_2 : w41.cell? ⟨Qx,2,none⟩ = some (.int .i64 0):=(blk_cell Qd.out 2).trans rfl;have hcz45_3 : w41.cell? ⟨Qx,3,none⟩ = some (.bool false):=(blk_cell Qd.out 3).trans rfl;have hfz45_0:=blk_frozen Qd.out 0;have hfz45_1:=blk_frozen Qd.out 1;have hfz45_2:=blk_frozen Qd.out 2;have hfz45_3:=blk_frozen Qd.out 3;obtain ⟨hcz46_0,hcz46_1,hcz46_2,hcz46_3,hcz46_4,hcz46_5,hcz46_6,hcz46_7,hcz46_8,hcz46_9,hcz46_10,hcz46_11,hcz46_12,hcz46_13,hcz46_14,hcz46_15⟩:=bc16_ (w:=w41) (g:=QD) (.int .i64 Qn) (.int .i64 Qm) (.int .i64 Qo) (.int .i64 Qp) (.int .i64 Qq) (.int .i64 Qr) (.int .i64 Qs) (.int .i64 Qt) (.int .i64 Qu) (.int .i64 Qv) (.int .i64 Qf) (.int .i64 Qg) (.int .i64 Qh) (.int .i64 Qi) (.int .i64 Qj) (.int .i64 Qk) Qa.out;obtain ⟨hfz46_0,hfz46_1,hfz46_2,hfz46_3,hfz46_4,hfz46_5,hfz46_6,hfz46_7,hfz46_8,hfz46_9,hfz46_10,hfz46_11,hfz46_12,hfz46_13,hfz46_14,hfz46_15⟩:=bf16_ Qa.out))
             repeat (go_quiet (first|(go_at_call 9;(with_reducible refine (resync_Turn.calls k2 Qn Qm Qo Qp Qq Qr Qs Qt Qu Qv Qf Qg Qh Qi Qj Qk QL QM QN QO _ _ QK Zh Zm Zq Zt ZQ ZR _ ?side1 ?side2 A18.out).mono ?_);(case side1=>repeat (first|exact (Kd.R_reads' HO120.out).2.2|(with_reducible refine Kd.C_alloc ?_ _)|(with_reducible refine Kd.C_drewN ?_ _)|(with_reducible refine Kd.C_drew ?_)));(case side2=>exact (Kd.R_reads' HO120.out).2.1);rintro e w33 ⟨rfl,hb⟩;have n0_:=kr_ HO120 hb;have n1_:=kb_ Qa hb;have n2_:=kb_ Qb hb;have n3_:=ks_ HB hb;clear HO120;clear Qa;clear Qb;clear HB;have HO120:=n0_;have Qa:=n1_;have Qb:=n2_;have HB:=n3_;clear n0_ n1_ n2_ n3_;(try clear hb);(try clear hb2);(try clear hk);(try clear hi))|((with_reducible refine gate_dst (N:=17) rfl ?_);(try (refine gate_guard (by rfl) ?_;dsimp only));refine box_event ?hg (N:=17) ?hd (cs:=#[.int .i64 0,.int .i64 0,.int .i64 0,.bool false]) (t:=25) ?hr ?_;(case hd=>rfl);(case hg=>rfl);(case hr=>first|(go_simp;done)|(go_simp;rfl));intro Qw hg w34 hbox hb;have n0_:=kr_ HO120 hb;have n1_:=kb_ Qa hb;have n2_:=kb_ Qb hb;have n3_:=ks_ HB hb;have n4_:=Aside0.mk (hbox);have n5_:=Aside0.mk ((by rw [hg];exact (kz_ HB) : w.heap.size ≤ Qw));have n6_:=Aside0.mk ((by rw [hg];exact (kz_ HB) : w.heap.size ≤ Qw));have n7_:=nl_ Qa hg;have n8_:=ng_ Qa hg;have n9_:=nl_ Qb hg;have n10_:=ng_ Qb hg;clear HO120;clear Qa;clear Qb;clear HB;have HO120:=n0_;have Qa:=n1_;have Qb:=n2_;have HB:=n3_;have Qc:=n4_;have GW131:=n5_;have ZJ:=n6_;have Zx:=n7_;have Zy:=n8_;have QP:=n9_;have QQ:=n10_;clear n0_ n1_ n2_ n3_ n4_ n5_ n6_ n7_ n8_ n9_ n10_;clear hb hbox hg;have hnb35:=Zy.out;have hnc35:=Zx.out;have hnb36:=QQ.out;have hnc36:=QP.out;have hcz37_0 : w34.cell? ⟨Qw,0,none⟩ = some (.int .i64 0):=(blk_cell Qc.out 0).trans rfl;have hcz37_1 : w34.cell? ⟨Qw,1,none⟩ = some (.int .i64 0):=(blk_cell Qc.out 1).trans rfl;have hcz37_2 : w34.cell? ⟨Qw,2,none⟩ = some (.int .i64 0):=(blk_cell Qc.out 2).trans rfl;have hcz37_3 : w34.cell? ⟨Qw,3,none⟩ = some (.bool false):=(blk_cell Qc.out 3).trans rfl;have hfz37_0:=blk_frozen Qc.out 0;have hfz37_1:=blk_frozen Qc.out 1;have hfz37_2:=blk_frozen Qc.out 2;have hfz37_3:=blk_frozen Qc.out 3;obtain ⟨hcz38_0,hcz38_1,hcz38_2,hcz38_3,hcz38_4,hcz38_5,hcz38_6,hcz38_7,hcz38_8,hcz38_9,hcz38_10,hcz38_11,hcz38_12,hcz38_13,hcz38_14,hcz38_15⟩:=bc16_ (w:=w34) (g:=QD) (.int .i64 Qn) (.int .i64 Qm) (.int .i64 Qo) (.int .i64 Qp) (.int .i64 Qq) (.int .i64 Qr) (.int .i64 Qs) (.int .i64 Qt) (.int .i64 Qu) (.int .i64 Qv) (.int .i64 Qf) (.int .i64 Qg) (.int .i64 Qh) (.int .i64 Qi) (.int .i64 Qj) (.int .i64 Qk) Qa.out;obtain ⟨hfz38_0,hfz38_1,hfz38_2,hfz38_3,hfz38_4,hfz38_5,hfz38_6,hfz38_7,hfz38_8,hfz38_9,hfz38_10,hfz38_11,hfz38_12,hfz38_13,hfz38_14,hfz38_15⟩:=bf16_ Qa.out;have hcz39_0 : w34.cell? ⟨QE,0,none⟩ = some (.int .i64 QL):=(blk_cell Qb.out 0).trans rfl;have hcz39_1 : w34.cell? ⟨QE,1,none⟩ = some (.int .i64 QM):=(blk_cell Qb.out 1).trans rfl;have hcz39_2 : w34.cell? ⟨QE,2,none⟩ = some (.int .i64 QN):=(blk_cell Qb.out 2).trans rfl;have hcz39_3 : w34.cell? ⟨QE,3,none⟩ = some (.bool QO):=(blk_cell Qb.out 3).trans rfl;have hfz39_0:=blk_frozen Qb.out 0;have hfz39_1:=blk_frozen Qb.out 1;have hfz39_2:=blk_frozen Qb.out 2;have hfz39_3:=blk_frozen Qb.out 3)|(go_at_call 10;(with_reducible refine (vespersref15_Turn.calls k2 Qn Qm Qo Qp Qq Qr Qs Qt Qu Qv Qf Qg Qh Qi Qj Qk QL QM QN QO _ _ l2 Zk Zo Zr Zw ZS ZT _ ?side1 ?side2 A19.out).mono ?_);(case side1=>exact Kd.C_below HR2.out (by repeat (first|(with_reducible first|exact HB.out|apply below_alloc|apply pw_below_drewN|apply below_drew1|refine below_set ?_ Zi.out|refine below_set ?_ Zj.out|refine below_set ?_ ZJ.out)|exact HB.out)));(case side2=>exact HC2.out);rintro e w40 ⟨rfl,hb⟩;have n0_:=Aside0.mk (Kd.R_below (by (with_reducible repeat (first|apply Kd.R_alloc|apply Kd.R_drewN|apply Kd.R_drew));exact (rf4_ (g:=Qw) (Kd.R_types HO120.out Qc.out (by decide)))) hb);have n1_:=kb_ Qa hb;have n2_:=kb_ Qb hb;have n3_:=Aside0.mk (blk_below (g:=Qw) (o:=.cells #[.int .i64 Zh,.int .i64 Zm,.int .i64 Zq,.bool Zt] 25 (0,0)) (by (with_reducible repeat (first|refine blk_drewN ?_ _|refine blk_drew ?_|refine blk_alloc ?_ _));refine blk_put (cs:=#[.int .i64 Zh,.int .i64 Zm,.int .i64 Zq,.bool false]) ?_ 3 _ rfl;(with_reducible repeat (first|refine blk_drewN ?_ _|refine blk_drew ?_|refine blk_alloc ?_ _));refine blk_put (cs:=#[.int .i64 Zh,.int .i64 Zm,.int .i64 0,.bool false]) ?_ 2 _ rfl;(with_reducible repeat (first|refine blk_drewN ?_ _|refine blk_drew ?_|refine blk_alloc ?_ _));refine blk_put (cs:=#[.int .i64 Zh,.int .i64 0,.int .i64 0,.bool false]) ?_ 1 _ rfl;(with_reducible repeat (first|refine blk_drewN ?_ _|refine blk_drew ?_|refine blk_alloc ?_ _));refine blk_put (cs:=#[.int .i64 0,.int .i64 0,.int .i64 0,.bool false]) ?_ 0 _ rfl;(with_reducible repeat (first|refine blk_drewN ?_ _|refine blk_drew ?_|refine blk_alloc ?_ _));exact Qc.out) hb);have n4_:=ks_ HB hb;clear HO120;clear Qa;clear Qb;clear Qc;clear HB;have HO120:=n0_;have Qa:=n1_;have Qb:=n2_;have Qc:=n3_;have HB:=n4_;clear n0_ n1_ n2_ n3_ n4_;(try clear hb);(try clear hb2);(try clear hk);(try clear hi))|((with_reducible refine gate_dst (N:=20) rfl ?_);(try (refine gate_guard (by rfl) ?_;dsimp only));refine box_event ?hg (N:=20) ?hd (cs:=#[.int .i64 0,.int .i64 0,.int .i64 0,.bool false]) (t:=25) ?hr ?_;(case hd=>rfl);(case hg=>rfl);(case hr=>first|(go_simp;done)|(go_simp;rfl));intro Qx hg w41 hbox hb;have n0_:=kr_ HO120 hb;have n1_:=kb_ Qa hb;have n2_:=kb_ Qb hb;have n3_:=kb_ Qc hb;have n4_:=ks_ HB hb;have n5_:=Aside0.mk (hbox);have n6_:=Aside0.mk ((by rw [hg];exact (kz_ HB) : w.heap.size ≤ Qx));have n7_:=Aside0.mk ((by rw [hg];exact (kz_ HB) : w.heap.size ≤ Qx));have n8_:=nl_ Qa hg;have n9_:=ng_ Qa hg;have n10_:=nl_ Qb hg;have n11_:=ng_ Qb hg;have n12_:=nl_ Qc hg;have n13_:=ng_ Qc hg;clear HO120;clear Qa;clear Qb;clear Qc;clear HB;have HO120:=n0_;have Qa:=n1_;have Qb:=n2_;have Qc:=n3_;have HB:=n4_;have Qd:=n5_;have GW138:=n6_;have ZK:=n7_;have Zz:=n8_;have ZA:=n9_;have QR:=n10_;have QS:=n11_;have QT:=n12_;have QU:=n13_;clear n0_ n1_ n2_ n3_ n4_ n5_ n6_ n7_ n8_ n9_ n10_ n11_ n12_ n13_;clear hb hbox hg;have hnb42:=ZA.out;have hnc42:=Zz.out;have hnb43:=QS.out;have hnc43:=QR.out;have hnb44:=QU.out;have hnc44:=QT.out;have hcz45_0 : w41.cell? ⟨Qx,0,none⟩ = some (.int .i64 0):=(blk_cell Qd.out 0).trans rfl;have hcz45_1 : w41.cell? ⟨Qx,1,none⟩ = some (.int .i64 0):=(blk_cell Qd.out 1).trans rfl;have hcz45_2 : w41.cell? ⟨Qx,2,none⟩ = some (.int .i64 0):=(blk_cell Qd.out 2).trans rfl;have hcz45_3 : w41.cell? ⟨Qx,3,none⟩ = some (.bool false):=(blk_cell Qd.out 3).trans rfl;have hfz45_0:=blk_frozen Qd.out 0;have hfz45_1:=blk_frozen Qd.out 1;have hfz45_2:=blk_frozen Qd.out 2;have hfz45_3:=blk_frozen Qd.out 3;obtain ⟨hcz46_0,hcz46_1,hcz46_2,hcz46_3,hcz46_4,hcz46_5,hcz46_6,hcz46_7,hcz46_8,hcz46_9,hcz46_10,hcz46_11,hcz46_12,hcz46_13,hcz46_14,hcz46_15⟩:=bc16_ (w:=w41) (g:=QD) (.int .i64 Qn) (.int .i64 Qm) (.int .i64 Qo) (.int .i64 Qp) (.int .i64 Qq) (.int .i64 Qr) (.int .i64 Qs) (.int .i64 Qt) (.int .i64 Qu) (.int .i64 Qv) (.int .i64 Qf) (.int .i64 Qg) (.int .i64 Qh) (.int .i64 Qi) (.int .i64 Qj) (.int .i64 Qk) Qa.out;obtain ⟨hfz46_0,hfz46_1,hfz46_2,hfz46_3,hfz46_4,hfz46_5,hfz46_6,hfz46_7,hfz46_8,hfz46_9,hfz46_10,hfz46_11,hfz46_12,hfz46_13,hfz46_14,hfz46_15⟩:=bf16_ Qa.out));try go_wp2_with (first|(go_at_call 9;(with_reducible refine (resync_Turn.calls k2 Qn Qm Qo Qp Qq Qr Qs Qt Qu Qv Qf Qg Qh Qi Qj Qk QL QM QN QO _ _ QK Zh Zm Zq Zt ZQ ZR _ ?side1 ?side2 A18.out).mono ?_);(case side1=>repeat (first|exact (Kd.R_reads' HO120.out).2.2|(with_reducible refine Kd.C_alloc ?_ _)|(with_reducible refine Kd.C_drewN ?_ _)|(with_reducible refine Kd.C_drew ?_)));(case side2=>exact (Kd.R_reads' HO120.out).2.1);rintro e w33 ⟨rfl,hb⟩;have n0_:=kr_ HO120 hb;have n1_:=kb_ Qa hb;have n2_:=kb_ Qb hb;have n3_:=ks_ HB hb;clear HO120;clear Qa;clear Qb;clear HB;have HO120:=n0_;have Qa:=n1_;have Qb:=n2_;have HB:=n3_;clear n0_ n1_ n2_ n3_;(try clear hb);(try clear hb2);(try clear hk);(try clear hi))|((with_reducible refine gate_dst (N:=17) rfl ?_);(try (refine gate_guard (by rfl) ?_;dsimp only));refine box_event ?hg (N:=17) ?hd (cs:=#[.int .i64 0,.int .i64 0,.int .i64 0,.bool false]) (t:=25) ?hr ?_;(case hd=>rfl);(case hg=>rfl);(case hr=>first|(go_simp;done)|(go_simp;rfl));intro Qw hg w34 hbox hb;have n0_:=kr_ HO120 hb;have n1_:=kb_ Qa hb;have n2_:=kb_ Qb hb;have n3_:=ks_ HB hb;have n4_:=Aside0.mk (hbox);have n5_:=Aside0.mk ((by rw [hg];exact (kz_ HB) : w.heap.size ≤ Qw));have n6_:=Aside0.mk ((by rw [hg];exact (kz_ HB) : w.heap.size ≤ Qw));have n7_:=nl_ Qa hg;have n8_:=ng_ Qa hg;have n9_:=nl_ Qb hg;have n10_:=ng_ Qb hg;clear HO120;clear Qa;clear Qb;clear HB;have HO120:=n0_;have Qa:=n1_;have Qb:=n2_;have HB:=n3_;have Qc:=n4_;have GW131:=n5_;have ZJ:=n6_;have Zx:=n7_;have Zy:=n8_;have QP:=n9_;have QQ:=n10_;clear n0_ n1_ n2_ n3_ n4_ n5_ n6_ n7_ n8_ n9_ n10_;clear hb hbox hg;have hnb35:=Zy.out;have hnc35:=Zx.out;have hnb36:=QQ.out;have hnc36:=QP.out;have hcz37_0 : w34.cell? ⟨Qw,0,none⟩ = some (.int .i64 0):=(blk_cell Qc.out 0).trans rfl;have hcz37_1 : w34.cell? ⟨Qw,1,none⟩ = some (.int .i64 0):=(blk_cell Qc.out 1).trans rfl;have hcz37_2 : w34.cell? ⟨Qw,2,none⟩ = some (.int .i64 0):=(blk_cell Qc.out 2).trans rfl;have hcz37_3 : w34.cell? ⟨Qw,3,none⟩ = some (.bool false):=(blk_cell Qc.out 3).trans rfl;have hfz37_0:=blk_frozen Qc.out 0;have hfz37_1:=blk_frozen Qc.out 1;have hfz37_2:=blk_frozen Qc.out 2;have hfz37_3:=blk_frozen Qc.out 3;obtain ⟨hcz38_0,hcz38_1,hcz38_2,hcz38_3,hcz38_4,hcz38_5,hcz38_6,hcz38_7,hcz38_8,hcz38_9,hcz38_10,hcz38_11,hcz38_12,hcz38_13,hcz38_14,hcz38_15⟩:=bc16_ (w:=w34) (g:=QD) (.int .i64 Qn) (.int .i64 Qm) (.int .i64 Qo) (.int .i64 Qp) (.int .i64 Qq) (.int .i64 Qr) (.int .i64 Qs) (.int .i64 Qt) (.int .i64 Qu) (.int .i64 Qv) (.int .i64 Qf) (.int .i64 Qg) (.int .i64 Qh) (.int .i64 Qi) (.int .i64 Qj) (.int .i64 Qk) Qa.out;obtain ⟨hfz38_0,hfz38_1,hfz38_2,hfz38_3,hfz38_4,hfz38_5,hfz38_6,hfz38_7,hfz38_8,hfz38_9,hfz38_10,hfz38_11,hfz38_12,hfz38_13,hfz38_14,hfz38_15⟩:=bf16_ Qa.out;have hcz39_0 : w34.cell? ⟨QE,0,none⟩ = some (.int .i64 QL):=(blk_cell Qb.out 0).trans rfl;have hcz39_1 : w34.cell? ⟨QE,1,none⟩ = some (.int .i64 QM):=(blk_cell Qb.out 1).trans rfl;have hcz39_2 : w34.cell? ⟨QE,2,none⟩ = some (.int .i64 QN):=(blk_cell Qb.out 2).trans rfl;have hcz39_3 : w34.cell? ⟨QE,3,none⟩ = some (.bool QO):=(blk_cell Qb.out 3).trans rfl;have hfz39_0:=blk_frozen Qb.out 0;have hfz39_1:=blk_frozen Qb.out 1;have hfz39_2:=blk_frozen Qb.out 2;have hfz39_3:=blk_frozen Qb.out 3)|(go_at_call 10;(with_reducible refine (vespersref15_Turn.calls k2 Qn Qm Qo Qp Qq Qr Qs Qt Qu Qv Qf Qg Qh Qi Qj Qk QL QM QN QO _ _ l2 Zk Zo Zr Zw ZS ZT _ ?side1 ?side2 A19.out).mono ?_);(case side1=>exact Kd.C_below HR2.out (by repeat (first|(with_reducible first|exact HB.out|apply below_alloc|apply pw_below_drewN|apply below_drew1|refine below_set ?_ Zi.out|refine below_set ?_ Zj.out|refine below_set ?_ ZJ.out)|exact HB.out)));(case side2=>exact HC2.out);rintro e w40 ⟨rfl,hb⟩;have n0_:=Aside0.mk (Kd.R_below (by (with_reducible repeat (first|apply Kd.R_alloc|apply Kd.R_drewN|apply Kd.R_drew));exact (rf4_ (g:=Qw) (Kd.R_types HO120.out Qc.out (by decide)))) hb);have n1_:=kb_ Qa hb;have n2_:=kb_ Qb hb;have n3_:=Aside0.mk (blk_below (g:=Qw) (o:=.cells #[.int .i64 Zh,.int .i64 Zm,.int .i64 Zq,.bool Zt] 25 (0,0)) (by (with_reducible repeat (first|refine blk_drewN ?_ _|refine blk_drew ?_|refine blk_alloc ?_ _));refine blk_put (cs:=#[.int .i64 Zh,.int .i64 Zm,.int .i64 Zq,.bool false]) ?_ 3 _ rfl;(with_reducible repeat (first|refine blk_drewN ?_ _|refine blk_drew ?_|refine blk_alloc ?_ _));refine blk_put (cs:=#[.int .i64 Zh,.int .i64 Zm,.int .i64 0,.bool false]) ?_ 2 _ rfl;(with_reducible repeat (first|refine blk_drewN ?_ _|refine blk_drew ?_|refine blk_alloc ?_ _));refine blk_put (cs:=#[.int .i64 Zh,.int .i64 0,.int .i64 0,.bool false]) ?_ 1 _ rfl;(with_reducible repeat (first|refine blk_drewN ?_ _|refine blk_drew ?_|refine blk_alloc ?_ _));refine blk_put (cs:=#[.int .i64 0,.int .i64 0,.int .i64 0,.bool false]) ?_ 0 _ rfl;(with_reducible repeat (first|refine blk_drewN ?_ _|refine blk_drew ?_|refine blk_alloc ?_ _));exact Qc.out) hb);have n4_:=ks_ HB hb;clear HO120;clear Qa;clear Qb;clear Qc;clear HB;have HO120:=n0_;have Qa:=n1_;have Qb:=n2_;have Qc:=n3_;have HB:=n4_;clear n0_ n1_ n2_ n3_ n4_;(try clear hb);(try clear hb2);(try clear hk);(try clear hi))|((with_reducible refine gate_dst (N:=20) rfl ?_);(try (refine gate_guard (by rfl) ?_;dsimp only));refine box_event ?hg (N:=20) ?hd (cs:=#[.int .i64 0,.int .i64 0,.int .i64 0,.bool false]) (t:=25) ?hr ?_;(case hd=>rfl);(case hg=>rfl);(case hr=>first|(go_simp;done)|(go_simp;rfl));intro Qx hg w41 hbox hb;have n0_:=kr_ HO120 hb;have n1_:=kb_ Qa hb;have n2_:=kb_ Qb hb;have n3_:=kb_ Qc hb;have n4_:=ks_ HB hb;have n5_:=Aside0.mk (hbox);have n6_:=Aside0.mk ((by rw [hg];exact (kz_ HB) : w.heap.size ≤ Qx));have n7_:=Aside0.mk ((by rw [hg];exact (kz_ HB) : w.heap.size ≤ Qx));have n8_:=nl_ Qa hg;have n9_:=ng_ Qa hg;have n10_:=nl_ Qb hg;have n11_:=ng_ Qb hg;have n12_:=nl_ Qc hg;have n13_:=ng_ Qc hg;clear HO120;clear Qa;clear Qb;clear Qc;clear HB;have HO120:=n0_;have Qa:=n1_;have Qb:=n2_;have Qc:=n3_;have HB:=n4_;have Qd:=n5_;have GW138:=n6_;have ZK:=n7_;have Zz:=n8_;have ZA:=n9_;have QR:=n10_;have QS:=n11_;have QT:=n12_;have QU:=n13_;clear n0_ n1_ n2_ n3_ n4_ n5_ n6_ n7_ n8_ n9_ n10_ n11_ n12_ n13_;clear hb hbox hg;have hnb42:=ZA.out;have hnc42:=Zz.out;have hnb43:=QS.out;have hnc43:=QR.out;have hnb44:=QU.out;have hnc44:=QT.out;have hcz45_0 : w41.cell? ⟨Qx,0,none⟩ = some (.int .i64 0):=(blk_cell Qd.out 0).trans rfl;have hcz45_1 : w41.cell? ⟨Qx,1,none⟩ = some (.int .i64 0):=(blk_cell Qd.out 1).trans rfl;have hcz45_2 : w41.cell? ⟨Qx,2,none⟩ = some (.int .i64 0):=(blk_cell Qd.out 2).trans rfl;have hcz45_3 : w41.cell? ⟨Qx,3,none⟩ = some (.bool false):=(blk_cell Qd.out 3).trans rfl;have hfz45_0:=blk_frozen Qd.out 0;have hfz45_1:=blk_frozen Qd.out 1;have hfz45_2:=blk_frozen Qd.out 2;have hfz45_3:=blk_frozen Qd.out 3;obtain ⟨hcz46_0,hcz46_1,hcz46_2,hcz46_3,hcz46_4,hcz46_5,hcz46_6,hcz46_7,hcz46_8,hcz46_9,hcz46_10,hcz46_11,hcz46_12,hcz46_13,hcz46_14,hcz46_15⟩:=bc16_ (w:=w41) (g:=QD) (.int .i64 Qn) (.int .i64 Qm) (.int .i64 Qo) (.int .i64 Qp) (.int .i64 Qq) (.int .i64 Qr) (.int .i64 Qs) (.int .i64 Qt) (.int .i64 Qu) (.int .i64 Qv) (.int .i64 Qf) (.int .i64 Qg) (.int .i64 Qh) (.int .i64 Qi) (.int .i64 Qj) (.int .i64 Qk) Qa.out;obtain ⟨hfz46_0,hfz46_1,hfz46_2,hfz46_3,hfz46_4,hfz46_5,hfz46_6,hfz46_7,hfz46_8,hfz46_9,hfz46_10,hfz46_11,hfz46_12,hfz46_13,hfz46_14,hfz46_15⟩:=bf16_ Qa.out)))
             as_aux_lemma =>
              go_wp2_with (first|(go_at_call 11;(with_reducible refine (resync_Fold.calls k2 Qn Qm Qo Qp Qq Qr Qs Qt Qu Qv Qf Qg Qh Qi Qj Qk _ _ l3 Zl Zp Zs ZE ZV _ ?side1 ?side2 A20.out).mono ?_);(case side1=>exact Kd.C_below HR3.out (by repeat (first|(with_reducible first|exact HB.out|apply below_alloc|apply pw_below_drewN|apply below_drew1|refine below_set ?_ Zi.out|refine below_set ?_ Zj.out|refine below_set ?_ ZJ.out|refine below_set ?_ ZK.out)|exact HB.out)));(case side2=>exact HC3.out);rintro e w47 ⟨rfl,hb⟩;have n0_:=Aside0.mk (Kd.R_below (by (with_reducible repeat (first|apply Kd.R_alloc|apply Kd.R_drewN|apply Kd.R_drew));exact (rf4_ (g:=Qx) (Kd.R_types HO120.out Qd.out (by decide)))) hb);have n1_:=kb_ Qa hb;have n2_:=kb_ Qb hb;have n3_:=kb_ Qc hb;have n4_:=Aside0.mk (blk_below (g:=Qx) (o:=.cells #[.int .i64 Zk,.int .i64 Zo,.int .i64 Zr,.bool Zw] 25 (0,0)) (by (with_reducible repeat (first|refine blk_drewN ?_ _|refine blk_drew ?_|refine blk_alloc ?_ _));refine blk_put (cs:=#[.int .i64 Zk,.int .i64 Zo,.int .i64 Zr,.bool false]) ?_ 3 _ rfl;(with_reducible repeat (first|refine blk_drewN ?_ _|refine blk_drew ?_|refine blk_alloc ?_ _));refine blk_put (cs:=#[.int .i64 Zk,.int .i64 Zo,.int .i64 0,.bool false]) ?_ 2 _ rfl;(with_reducible repeat (first|refine blk_drewN ?_ _|refine blk_drew ?_|refine blk_alloc ?_ _));refine blk_put (cs:=#[.int .i64 Zk,.int .i64 0,.int .i64 0,.bool false]) ?_ 1 _ rfl;(with_reducible repeat (first|refine blk_drewN ?_ _|refine blk_drew ?_|refine blk_alloc ?_ _));refine blk_put (cs:=#[.int .i64 0,.int .i64 0,.int .i64 0,.bool false]) ?_ 0 _ rfl;(with_reducible repeat (first|refine blk_drewN ?_ _|refine blk_drew ?_|refine blk_alloc ?_ _));exact Qd.out) hb);have n5_:=ks_ HB hb;clear HO120;clear Qa;clear Qb;clear Qc;clear Qd;clear HB;have HO120:=n0_;have Qa:=n1_;have Qb:=n2_;have Qc:=n3_;have Qd:=n4_;have HB:=n5_;clear n0_ n1_ n2_ n3_ n4_ n5_;(try clear hb);(try clear hb2);(try clear hk);(try clear hi))|((with_reducible refine gate_dst (N:=23) rfl ?_);(try (refine gate_guard (by rfl) ?_;dsimp only));refine box_event ?hg (N:=23) ?hd (cs:=#[.int .i64 0,.int .i64 0,.int .i64 0,.bool false]) (t:=25) ?hr ?_;(case hd=>rfl);(case hg=>rfl);(case hr=>first|(go_simp;done)|(go_simp;rfl));intro Qy hg w48 hbox hb;have n0_:=kr_ HO120 hb;have n1_:=kb_ Qa hb;have n2_:=kb_ Qb hb;have n3_:=kb_ Qc hb;have n4_:=kb_ Qd hb;have n5_:=ks_ HB hb;have n6_:=Aside0.mk (hbox);have n7_:=Aside0.mk ((by rw [hg];exact (kz_ HB) : w.heap.size ≤ Qy));have n8_:=Aside0.mk ((by rw [hg];exact (kz_ HB) : w.heap.size ≤ Qy));have n9_:=nl_ Qa hg;have n10_:=ng_ Qa hg;have n11_:=nl_ Qb hg;have n12_:=ng_ Qb hg;have n13_:=nl_ Qc hg;have n14_:=ng_ Qc hg;have n15_:=nl_ Qd hg;have n16_:=ng_ Qd hg;clear HO120;clear Qa;clear Qb;clear Qc;clear Qd;clear HB;have HO120:=n0_;have Qa:=n1_;have Qb:=n2_;have Qc:=n3_;have Qd:=n4_;have HB:=n5_;have Qe:=n6_;have GW144:=n7_;have ZW:=n8_;have ZB:=n9_;have ZC:=n10_;have QV:=n11_;have QW:=n12_;have QX:=n13_;have QY:=n14_;have QZ:=n15_;have Za:=n16_;clear n0_ n1_ n2_ n3_ n4_ n5_ n6_ n7_ n8_ n9_ n10_ n11_ n12_ n13_ n14_ n15_ n16_;clear hb hbox hg;have hnb49:=ZC.out;have hnc49:=ZB.out;have hnb50:=QW.out;have hnc50:=QV.out;have hnb51:=QY.out;have hnc51:=QX.out;have hnb52:=Za.out;have hnc52:=QZ.out;have hcz53_0 : w48.cell? ⟨Qy,0,none⟩ = some (.int .i64 0):=(blk_cell Qe.out 0).trans rfl;have hcz53_1 : w48.cell? ⟨Qy,1,none⟩ = some (.int .i64 0):=(blk_cell Qe.out 1).trans rfl;have hcz53_2 : w48.cell? ⟨Qy,2,none⟩ = some (.int .i64 0):=(blk_cell Qe.out 2).trans rfl;have hcz53_3 : w48.cell? ⟨Qy,3,none⟩ = some (.bool false):=(blk_cell Qe.out 3).trans rfl;have hfz53_0:=blk_frozen Qe.out 0;have hfz53_1:=blk_frozen Qe.out 1;have hfz53_2:=blk_frozen Qe.out 2;have hfz53_3:=blk_frozen Qe.out 3;obtain ⟨hcz54_0,hcz54_1,hcz54_2,hcz54_3,hcz54_4,hcz54_5,hcz54_6,hcz54_7,hcz54_8,hcz54_9,hcz54_10,hcz54_11,hcz54_12,hcz54_13,hcz54_14,hcz54_15⟩:=bc16_ (w:=w48) (g:=QD) (.int .i64 Qn) (.int .i64 Qm) (.int .i64 Qo) (.int .i64 Qp) (.int .i64 Qq) (.int .i64 Qr) (.int .i64 Qs) (.int .i64 Qt) (.int .i64 Qu) (.int .i64 Qv) (.int .i64 Qf) (.int .i64 Qg) (.int .i64 Qh) (.int .i64 Qi) (.int .i64 Qj) (.int .i64 Qk) Qa.out;obtain ⟨hfz54_0,hfz54_1,hfz54_2,hfz54_3,hfz54_4,hfz54_5,hfz54_6,hfz54_7,hfz54_8,hfz54_9,hfz54_10,hfz54_11,hfz54_12,hfz54_13,hfz54_14,hfz54_15⟩:=bf16_ Qa.out)|(go_at_call 12;(with_reducible refine (vespersref15_Fold.calls k2 Qn Qm Qo Qp Qq Qr Qs Qt Qu Qv Qf Qg Qh Qi Qj Qk _ _ l3 ZF ZG ZH ZI ZX _ ?side1 ?side2 A21.out).mono ?_);(case side1=>exact Kd.C_below HR3.out (by repeat (first|(with_reducible first|exact HB.out|apply below_alloc|apply pw_below_drewN|apply below_drew1|refine below_set ?_ Zi.out|refine below_set ?_ Zj.out|refine below_set ?_ ZJ.out|refine below_set ?_ ZK.out|refine below_set ?_ ZW.out)|exact HB.out)));(case side2=>exact HC3.out);rintro e w55 ⟨rfl,hb⟩;have n0_:=Aside0.mk (Kd.R_below (by (with_reducible repeat (first|apply Kd.R_alloc|apply Kd.R_drewN|apply Kd.R_drew));exact (rf4_ (g:=Qy) (Kd.R_types HO120.out Qe.out (by decide)))) hb);have n1_:=kb_ Qa hb;have n2_:=kb_ Qb hb;have n3_:=kb_ Qc hb;have n4_:=kb_ Qd hb;have n5_:=Aside0.mk (blk_below (g:=Qy) (o:=.cells #[.int .i64 Zl,.int .i64 Zp,.int .i64 Zs,.bool ZE] 25 (0,0)) (by (with_reducible repeat (first|refine blk_drewN ?_ _|refine blk_drew ?_|refine blk_alloc ?_ _));refine blk_put (cs:=#[.int .i64 Zl,.int .i64 Zp,.int .i64 Zs,.bool false]) ?_ 3 _ rfl;(with_reducible repeat (first|refine blk_drewN ?_ _|refine blk_drew ?_|refine blk_alloc ?_ _));refine blk_put (cs:=#[.int .i64 Zl,.int .i64 Zp,.int .i64 0,.bool false]) ?_ 2 _ rfl;(with_reducible repeat (first|refine blk_drewN ?_ _|refine blk_drew ?_|refine blk_alloc ?_ _));refine blk_put (cs:=#[.int .i64 Zl,.int .i64 0,.int .i64 0,.bool false]) ?_ 1 _ rfl;(with_reducible repeat (first|refine blk_drewN ?_ _|refine blk_drew ?_|refine blk_alloc ?_ _));refine blk_put (cs:=#[.int .i64 0,.int .i64 0,.int .i64 0,.bool false]) ?_ 0 _ rfl;(with_reducible repeat (first|refine blk_drewN ?_ _|refine blk_drew ?_|refine blk_alloc ?_ _));exact Qe.out) hb);have n6_:=ks_ HB hb;clear HO120;clear Qa;clear Qb;clear Qc;clear Qd;clear Qe;clear HB;have HO120:=n0_;have Qa:=n1_;have Qb:=n2_;have Qc:=n3_;have Qd:=n4_;have Qe:=n5_;have HB:=n6_;clear n0_ n1_ n2_ n3_ n4_ n5_ n6_;(try clear hb);(try clear hb2);(try clear hk);(try clear hi))|((with_reducible refine gate_dst (N:=25) rfl ?_);(try (refine gate_guard (by rfl) ?_;dsimp only));refine box_event ?hg (N:=25) ?hd (cs:=#[.int .i64 0,.int .i64 0,.int .i64 0,.bool false]) (t:=25) ?hr ?_;(case hd=>rfl);(case hg=>rfl);(case hr=>first|(go_simp;done)|(go_simp;rfl));intro Qz hg w56 hbox hb;have n0_:=kr_ HO120 hb;have n1_:=kb_ Qa hb;have n2_:=kb_ Qb hb;have n3_:=kb_ Qc hb;have n4_:=kb_ Qd hb;have n5_:=kb_ Qe hb;have n6_:=ks_ HB hb;have n7_:=Aside0.mk (hbox);have n8_:=Aside0.mk ((by rw [hg];exact (kz_ HB) : w.heap.size ≤ Qz));have n9_:=Aside0.mk ((by rw [hg];exact (kz_ HB) : w.heap.size ≤ Qz));have n10_:=nl_ Qa hg;have n11_:=ng_ Qa hg;have n12_:=nl_ Qb hg;have n13_:=ng_ Qb hg;have n14_:=nl_ Qc hg;have n15_:=ng_ Qc hg;have n16_:=nl_ Qd hg;have n17_:=ng_ Qd hg;have n18_:=nl_ Qe hg;have n19_:=ng_ Qe hg;clear HO120;clear Qa;clear Qb;clear Qc;clear Qd;clear Qe;clear HB;have HO120:=n0_;have Qa:=n1_;have Qb:=n2_;have Qc:=n3_;have Qd:=n4_;have Qe:=n5_;have HB:=n6_;have Ql:=n7_;have GW150:=n8_;have Xa:=n9_;have Zb:=n10_;have ZD:=n11_;have QF:=n12_;have Zc:=n13_;have QG:=n14_;have Zd:=n15_;have QH:=n16_;have Ze:=n17_;have QI:=n18_;have Zf:=n19_;clear n0_ n1_ n2_ n3_ n4_ n5_ n6_ n7_ n8_ n9_ n10_ n11_ n12_ n13_ n14_ n15_ n16_ n17_ n18_ n19_;clear hb hbox hg;have hnb57:=ZD.out;have hnc57:=Zb.out;have hnb58:=Zc.out;have hnc58:=QF.out;have hnb59:=Zd.out;have hnc59:=QG.out;have hnb60:=Ze.out;have hnc60:=QH.out;have hnb61:=Zf.out;have hnc61:=QI.out;have hcz62_0 : w56.cell? ⟨Qz,0,none⟩ = some (.int .i64 0):=(blk_cell Ql.out 0).trans rfl;have hcz62_1 : w56.cell? ⟨Qz,1,none⟩ = some (.int .i64 0):=(blk_cell Ql.out 1).trans rfl;have hcz62_2 : w56.cell? ⟨Qz,2,none⟩ = some (.int .i64 0):=(blk_cell Ql.out 2).trans rfl;have hcz62_3 : w56.cell? ⟨Qz,3,none⟩ = some (.bool false):=(blk_cell Ql.out 3).trans rfl;have hfz62_0:=blk_frozen Ql.out 0;have hfz62_1:=blk_frozen Ql.out 1;have hfz62_2:=blk_frozen Ql.out 2;have hfz62_3:=blk_frozen Ql.out 3))
              repeat (go_quiet (first|(go_at_call 11;(with_reducible refine (resync_Fold.calls k2 Qn Qm Qo Qp Qq Qr Qs Qt Qu Qv Qf Qg Qh Qi Qj Qk _ _ l3 Zl Zp Zs ZE ZV _ ?side1 ?side2 A20.out).mono ?_);(case side1=>exact Kd.C_below HR3.out (by repeat (first|(with_reducible first|exact HB.out|apply below_alloc|apply pw_below_drewN|apply below_drew1|refine below_set ?_ Zi.out|refine below_set ?_ Zj.out|refine below_set ?_ ZJ.out|refine below_set ?_ ZK.out)|exact HB.out)));(case side2=>exact HC3.out);rintro e w47 ⟨rfl,hb⟩;have n0_:=Aside0.mk (Kd.R_below (by (with_reducible repeat (first|apply Kd.R_alloc|apply Kd.R_drewN|apply Kd.R_drew));exact (rf4_ (g:=Qx) (Kd.R_types HO120.out Qd.out (by decide)))) hb);have n1_:=kb_ Qa hb;have n2_:=kb_ Qb hb;have n3_:=kb_ Qc hb;have n4_:=Aside0.mk (blk_below (g:=Qx) (o:=.cells #[.int .i64 Zk,.int .i64 Zo,.int .i64 Zr,.bool Zw] 25 (0,0)) (by (with_reducible repeat (first|refine blk_drewN ?_ _|refine blk_drew ?_|refine blk_alloc ?_ _));refine blk_put (cs:=#[.int .i64 Zk,.int .i64 Zo,.int .i64 Zr,.bool false]) ?_ 3 _ rfl;(with_reducible repeat (first|refine blk_drewN ?_ _|refine blk_drew ?_|refine blk_alloc ?_ _));refine blk_put (cs:=#[.int .i64 Zk,.int .i64 Zo,.int .i64 0,.bool false]) ?_ 2 _ rfl;(with_reducible repeat (first|refine blk_drewN ?_ _|refine blk_drew ?_|refine blk_alloc ?_ _));refine blk_put (cs:=#[.int .i64 Zk,.int .i64 0,.int .i64 0,.bool false]) ?_ 1 _ rfl;(with_reducible repeat (first|refine blk_drewN ?_ _|refine blk_drew ?_|refine blk_alloc ?_ _));refine blk_put (cs:=#[.int .i64 0,.int .i64 0,.int .i64 0,.bool false]) ?_ 0 _ rfl;(with_reducible repeat (first|refine blk_drewN ?_ _|refine blk_drew ?_|refine blk_alloc ?_ _));exact Qd.out) hb);have n5_:=ks_ HB hb;clear HO120;clear Qa;clear Qb;clear Qc;clear Qd;clear HB;have HO120:=n0_;have Qa:=n1_;have Qb:=n2_;have Qc:=n3_;have Qd:=n4_;have HB:=n5_;clear n0_ n1_ n2_ n3_ n4_ n5_;(try clear hb);(try clear hb2);(try clear hk);(try clear hi))|((with_reducible refine gate_dst (N:=23) rfl ?_);(try (refine gate_guard (by rfl) ?_;dsimp only));refine box_event ?hg (N:=23) ?hd (cs:=#[.int .i64 0,.int .i64 0,.int .i64 0,.bool false]) (t:=25) ?hr ?_;(case hd=>rfl);(case hg=>rfl);(case hr=>first|(go_simp;done)|(go_simp;rfl));intro Qy hg w48 hbox hb;have n0_:=kr_ HO120 hb;have n1_:=kb_ Qa hb;have n2_:=kb_ Qb hb;have n3_:=kb_ Qc hb;have n4_:=kb_ Qd hb;have n5_:=ks_ HB hb;have n6_:=Aside0.mk (hbox);have n7_:=Aside0.mk ((by rw [hg];exact (kz_ HB) : w.heap.size ≤ Qy));have n8_:=Aside0.mk ((by rw [hg];exact (kz_ HB) : w.heap.size ≤ Qy));have n9_:=nl_ Qa hg;have n10_:=ng_ Qa hg;have n11_:=nl_ Qb hg;have n12_:=ng_ Qb hg;have n13_:=nl_ Qc hg;have n14_:=ng_ Qc hg;have n15_:=nl_ Qd hg;have n16_:=ng_ Qd hg;clear HO120;clear Qa;clear Qb;clear Qc;clear Qd;clear HB;have HO120:=n0_;have Qa:=n1_;have Qb:=n2_;have Qc:=n3_;have Qd:=n4_;have HB:=n5_;have Qe:=n6_;have GW144:=n7_;have ZW:=n8_;have ZB:=n9_;have ZC:=n10_;have QV:=n11_;have QW:=n12_;have QX:=n13_;have QY:=n14_;have QZ:=n15_;have Za:=n16_;clear n0_ n1_ n2_ n3_ n4_ n5_ n6_ n7_ n8_ n9_ n10_ n11_ n12_ n13_ n14_ n15_ n16_;clear hb hbox hg;have hnb49:=ZC.out;have hnc49:=ZB.out;have hnb50:=QW.out;have hnc50:=QV.out;have hnb51:=QY.out;have hnc51:=QX.out;have hnb52:=Za.out;have hnc52:=QZ.out;have hcz53_0 : w48.cell? ⟨Qy,0,none⟩ = some (.int .i64 0):=(blk_cell Qe.out 0).trans rfl;have hcz53_1 : w48.cell? ⟨Qy,1,none⟩ = some (.int .i64 0):=(blk_cell Qe.out 1).trans rfl;have hcz53_2 : w48.cell? ⟨Qy,2,none⟩ = some (.int .i64 0):=(blk_cell Qe.out 2).trans rfl;have hcz53_3 : w48.cell? ⟨Qy,3,none⟩ = some (.bool false):=(blk_cell Qe.out 3).trans rfl;have hfz53_0:=blk_frozen Qe.out 0;have hfz53_1:=blk_frozen Qe.out 1;have hfz53_2:=blk_frozen Qe.out 2;have hfz53_3:=blk_frozen Qe.out 3;obtain ⟨hcz54_0,hcz54_1,hcz54_2,hcz54_3,hcz54_4,hcz54_5,hcz54_6,hcz54_7,hcz54_8,hcz54_9,hcz54_10,hcz54_11,hcz54_12,hcz54_13,hcz54_14,hcz54_15⟩:=bc16_ (w:=w48) (g:=QD) (.int .i64 Qn) (.int .i64 Qm) (.int .i64 Qo) (.int .i64 Qp) (.int .i64 Qq) (.int .i64 Qr) (.int .i64 Qs) (.int .i64 Qt) (.int .i64 Qu) (.int .i64 Qv) (.int .i64 Qf) (.int .i64 Qg) (.int .i64 Qh) (.int .i64 Qi) (.int .i64 Qj) (.int .i64 Qk) Qa.out;obtain ⟨hfz54_0,hfz54_1,hfz54_2,hfz54_3,hfz54_4,hfz54_5,hfz54_6,hfz54_7,hfz54_8,hfz54_9,hfz54_10,hfz54_11,hfz54_12,hfz54_13,hfz54_14,hfz54_15⟩:=bf16_ Qa.out)|(go_at_call 12;(with_reducible refine (vespersref15_Fold.calls k2 Qn Qm Qo Qp Qq Qr Qs Qt Qu Qv Qf Qg Qh Qi Qj Qk _ _ l3 ZF ZG ZH ZI ZX _ ?side1 ?side2 A21.out).mono ?_);(case side1=>exact Kd.C_below HR3.out (by repeat (first|(with_reducible first|exact HB.out|apply below_alloc|apply pw_below_drewN|apply below_drew1|refine below_set ?_ Zi.out|refine below_set ?_ Zj.out|refine below_set ?_ ZJ.out|refine below_set ?_ ZK.out|refine below_set ?_ ZW.out)|exact HB.out)));(case side2=>exact HC3.out);rintro e w55 ⟨rfl,hb⟩;have n0_:=Aside0.mk (Kd.R_below (by (with_reducible repeat (first|apply Kd.R_alloc|apply Kd.R_drewN|apply Kd.R_drew));exact (rf4_ (g:=Qy) (Kd.R_types HO120.out Qe.out (by decide)))) hb);have n1_:=kb_ Qa hb;have n2_:=kb_ Qb hb;have n3_:=kb_ Qc hb;have n4_:=kb_ Qd hb;have n5_:=Aside0.mk (blk_below (g:=Qy) (o:=.cells #[.int .i64 Zl,.int .i64 Zp,.int .i64 Zs,.bool ZE] 25 (0,0)) (by (with_reducible repeat (first|refine blk_drewN ?_ _|refine blk_drew ?_|refine blk_alloc ?_ _));refine blk_put (cs:=#[.int .i64 Zl,.int .i64 Zp,.int .i64 Zs,.bool false]) ?_ 3 _ rfl;(with_reducible repeat (first|refine blk_drewN ?_ _|refine blk_drew ?_|refine blk_alloc ?_ _));refine blk_put (cs:=#[.int .i64 Zl,.int .i64 Zp,.int .i64 0,.bool false]) ?_ 2 _ rfl;(with_reducible repeat (first|refine blk_drewN ?_ _|refine blk_drew ?_|refine blk_alloc ?_ _));refine blk_put (cs:=#[.int .i64 Zl,.int .i64 0,.int .i64 0,.bool false]) ?_ 1 _ rfl;(with_reducible repeat (first|refine blk_drewN ?_ _|refine blk_drew ?_|refine blk_alloc ?_ _));refine blk_put (cs:=#[.int .i64 0,.int .i64 0,.int .i64 0,.bool false]) ?_ 0 _ rfl;(with_reducible repeat (first|refine blk_drewN ?_ _|refine blk_drew ?_|refine blk_alloc ?_ _));exact Qe.out) hb);have n6_:=ks_ HB hb;clear HO120;clear Qa;clear Qb;clear Qc;clear Qd;clear Qe;clear HB;have HO120:=n0_;have Qa:=n1_;have Qb:=n2_;have Qc:=n3_;have Qd:=n4_;have Qe:=n5_;have HB:=n6_;clear n0_ n1_ n2_ n3_ n4_ n5_ n6_;(try clear hb);(try clear hb2);(try clear hk);(try clear hi))|((with_reducible refine gate_dst (N:=25) rfl ?_);(try (refine gate_guard (by rfl) ?_;dsimp only));refine box_event ?hg (N:=25) ?hd (cs:=#[.int .i64 0,.int .i64 0,.int .i64 0,.bool false]) (t:=25) ?hr ?_;(case hd=>rfl);(case hg=>rfl);(case hr=>first|(go_simp;done)|(go_simp;rfl));intro Qz hg w56 hbox hb;have n0_:=kr_ HO120 hb;have n1_:=kb_ Qa hb;have n2_:=kb_ Qb hb;have n3_:=kb_ Qc hb;have n4_:=kb_ Qd hb;have n5_:=kb_ Qe hb;have n6_:=ks_ HB hb;have n7_:=Aside0.mk (hbox);have n8_:=Aside0.mk ((by rw [hg];exact (kz_ HB) : w.heap.size ≤ Qz));have n9_:=Aside0.mk ((by rw [hg];exact (kz_ HB) : w.heap.size ≤ Qz));have n10_:=nl_ Qa hg;have n11_:=ng_ Qa hg;have n12_:=nl_ Qb hg;have n13_:=ng_ Qb hg;have n14_:=nl_ Qc hg;have n15_:=ng_ Qc hg;have n16_:=nl_ Qd hg;have n17_:=ng_ Qd hg;have n18_:=nl_ Qe hg;have n19_:=ng_ Qe hg;clear HO120;clear Qa;clear Qb;clear Qc;clear Qd;clear Qe;clear HB;have HO120:=n0_;have Qa:=n1_;have Qb:=n2_;have Qc:=n3_;have Qd:=n4_;have Qe:=n5_;have HB:=n6_;have Ql:=n7_;have GW150:=n8_;have Xa:=n9_;have Zb:=n10_;have ZD:=n11_;have QF:=n12_;have Zc:=n13_;have QG:=n14_;have Zd:=n15_;have QH:=n16_;have Ze:=n17_;have QI:=n18_;have Zf:=n19_;clear n0_ n1_ n2_ n3_ n4_ n5_ n6_ n7_ n8_ n9_ n10_ n11_ n12_ n13_ n14_ n15_ n16_ n17_ n18_ n19_;clear hb hbox hg;have hnb57:=ZD.out;have hnc57:=Zb.out;have hnb58:=Zc.out;have hnc58:=QF.out;have hnb59:=Zd.out;have hnc59:=QG.out;have hnb60:=Ze.out;have hnc60:=QH.out;have hnb61:=Zf.out;have hnc61:=QI.out;have hcz62_0 : w56.cell? ⟨Qz,0,none⟩ = some (.int .i64 0):=(blk_cell Ql.out 0).trans rfl;have hcz62_1 : w56.cell? ⟨Qz,1,none⟩ = some (.int .i64 0):=(blk_cell Ql.out 1).trans rfl;have hcz62_2 : w56.cell? ⟨Qz,2,none⟩ = some (.int .i64 0):=(blk_cell Ql.out 2).trans rfl;have hcz62_3 : w56.cell? ⟨Qz,3,none⟩ = some (.bool false):=(blk_cell Ql.out 3).trans rfl;have hfz62_0:=blk_frozen Ql.out 0;have hfz62_1:=blk_frozen Ql.out 1;have hfz62_2:=blk_frozen Ql.out 2;have hfz62_3:=blk_frozen Ql.out 3));try go_wp2_with (first|(go_at_call 11;(with_reducible refine (resync_Fold.calls k2 Qn Qm Qo Qp Qq Qr Qs Qt Qu Qv Qf Qg Qh Qi Qj Qk _ _ l3 Zl Zp Zs ZE ZV _ ?side1 ?side2 A20.out).mono ?_);(case side1=>exact Kd.C_below HR3.out (by repeat (first|(with_reducible first|exact HB.out|apply below_alloc|apply pw_below_drewN|apply below_drew1|refine below_set ?_ Zi.out|refine below_set ?_ Zj.out|refine below_set ?_ ZJ.out|refine below_set ?_ ZK.out)|exact HB.out)));(case side2=>exact HC3.out);rintro e w47 ⟨rfl,hb⟩;have n0_:=Aside0.mk (Kd.R_below (by (with_reducible repeat (first|apply Kd.R_alloc|apply Kd.R_drewN|apply Kd.R_drew));exact (rf4_ (g:=Qx) (Kd.R_types HO120.out Qd.out (by decide)))) hb);have n1_:=kb_ Qa hb;have n2_:=kb_ Qb hb;have n3_:=kb_ Qc hb;have n4_:=Aside0.mk (blk_below (g:=Qx) (o:=.cells #[.int .i64 Zk,.int .i64 Zo,.int .i64 Zr,.bool Zw] 25 (0,0)) (by (with_reducible repeat (first|refine blk_drewN ?_ _|refine blk_drew ?_|refine blk_alloc ?_ _));refine blk_put (cs:=#[.int .i64 Zk,.int .i64 Zo,.int .i64 Zr,.bool false]) ?_ 3 _ rfl;(with_reducible repeat (first|refine blk_drewN ?_ _|refine blk_drew ?_|refine blk_alloc ?_ _));refine blk_put (cs:=#[.int .i64 Zk,.int .i64 Zo,.int .i64 0,.bool false]) ?_ 2 _ rfl;(with_reducible repeat (first|refine blk_drewN ?_ _|refine blk_drew ?_|refine blk_alloc ?_ _));refine blk_put (cs:=#[.int .i64 Zk,.int .i64 0,.int .i64 0,.bool false]) ?_ 1 _ rfl;(with_reducible repeat (first|refine blk_drewN ?_ _|refine blk_drew ?_|refine blk_alloc ?_ _));refine blk_put (cs:=#[.int .i64 0,.int .i64 0,.int .i64 0,.bool false]) ?_ 0 _ rfl;(with_reducible repeat (first|refine blk_drewN ?_ _|refine blk_drew ?_|refine blk_alloc ?_ _));exact Qd.out) hb);have n5_:=ks_ HB hb;clear HO120;clear Qa;clear Qb;clear Qc;clear Qd;clear HB;have HO120:=n0_;have Qa:=n1_;have Qb:=n2_;have Qc:=n3_;have Qd:=n4_;have HB:=n5_;clear n0_ n1_ n2_ n3_ n4_ n5_;(try clear hb);(try clear hb2);(try clear hk);(try clear hi))|((with_reducible refine gate_dst (N:=23) rfl ?_);(try (refine gate_guard (by rfl) ?_;dsimp only));refine box_event ?hg (N:=23) ?hd (cs:=#[.int .i64 0,.int .i64 0,.int .i64 0,.bool false]) (t:=25) ?hr ?_;(case hd=>rfl);(case hg=>rfl);(case hr=>first|(go_simp;done)|(go_simp;rfl));intro Qy hg w48 hbox hb;have n0_:=kr_ HO120 hb;have n1_:=kb_ Qa hb;have n2_:=kb_ Qb hb;have n3_:=kb_ Qc hb;have n4_:=kb_ Qd hb;have n5_:=ks_ HB hb;have n6_:=Aside0.mk (hbox);have n7_:=Aside0.mk ((by rw [hg];exact (kz_ HB) : w.heap.size ≤ Qy));have n8_:=Aside0.mk ((by rw [hg];exact (kz_ HB) : w.heap.size ≤ Qy));have n9_:=nl_ Qa hg;have n10_:=ng_ Qa hg;have n11_:=nl_ Qb hg;have n12_:=ng_ Qb hg;have n13_:=nl_ Qc hg;have n14_:=ng_ Qc hg;have n15_:=nl_ Qd hg;have n16_:=ng_ Qd hg;clear HO120;clear Qa;clear Qb;clear Qc;clear Qd;clear HB;have HO120:=n0_;have Qa:=n1_;have Qb:=n2_;have Qc:=n3_;have Qd:=n4_;have HB:=n5_;have Qe:=n6_;have GW144:=n7_;have ZW:=n8_;have ZB:=n9_;have ZC:=n10_;have QV:=n11_;have QW:=n12_;have QX:=n13_;have QY:=n14_;have QZ:=n15_;have Za:=n16_;clear n0_ n1_ n2_ n3_ n4_ n5_ n6_ n7_ n8_ n9_ n10_ n11_ n12_ n13_ n14_ n15_ n16_;clear hb hbox hg;have hnb49:=ZC.out;have hnc49:=ZB.out;have hnb50:=QW.out;have hnc50:=QV.out;have hnb51:=QY.out;have hnc51:=QX.out;have hnb52:=Za.out;have hnc52:=QZ.out;have hcz53_0 : w48.cell? ⟨Qy,0,none⟩ = some (.int .i64 0):=(blk_cell Qe.out 0).trans rfl;have hcz53_1 : w48.cell? ⟨Qy,1,none⟩ = some (.int .i64 0):=(blk_cell Qe.out 1).trans rfl;have hcz53_2 : w48.cell? ⟨Qy,2,none⟩ = some (.int .i64 0):=(blk_cell Qe.out 2).trans rfl;have hcz53_3 : w48.cell? ⟨Qy,3,none⟩ = some (.bool false):=(blk_cell Qe.out 3).trans rfl;have hfz53_0:=blk_frozen Qe.out 0;have hfz53_1:=blk_frozen Qe.out 1;have hfz53_2:=blk_frozen Qe.out 2;have hfz53_3:=blk_frozen Qe.out 3;obtain ⟨hcz54_0,hcz54_1,hcz54_2,hcz54_3,hcz54_4,hcz54_5,hcz54_6,hcz54_7,hcz54_8,hcz54_9,hcz54_10,hcz54_11,hcz54_12,hcz54_13,hcz54_14,hcz54_15⟩:=bc16_ (w:=w48) (g:=QD) (.int .i64 Qn) (.int .i64 Qm) (.int .i64 Qo) (.int .i64 Qp) (.int .i64 Qq) (.int .i64 Qr) (.int .i64 Qs) (.int .i64 Qt) (.int .i64 Qu) (.int .i64 Qv) (.int .i64 Qf) (.int .i64 Qg) (.int .i64 Qh) (.int .i64 Qi) (.int .i64 Qj) (.int .i64 Qk) Qa.out;obtain ⟨hfz54_0,hfz54_1,hfz54_2,hfz54_3,hfz54_4,hfz54_5,hfz54_6,hfz54_7,hfz54_8,hfz54_9,hfz54_10,hfz54_11,hfz54_12,hfz54_13,hfz54_14,hfz54_15⟩:=bf16_ Qa.out)|(go_at_call 12;(with_reducible refine (vespersref15_Fold.calls k2 Qn Qm Qo Qp Qq Qr Qs Qt Qu Qv Qf Qg Qh Qi Qj Qk _ _ l3 ZF ZG ZH ZI ZX _ ?side1 ?side2 A21.out).mono ?_);(case side1=>exact Kd.C_below HR3.out (by repeat (first|(with_reducible first|exact HB.out|apply below_alloc|apply pw_below_drewN|apply below_drew1|refine below_set ?_ Zi.out|refine below_set ?_ Zj.out|refine below_set ?_ ZJ.out|refine below_set ?_ ZK.out|refine below_set ?_ ZW.out)|exact HB.out)));(case side2=>exact HC3.out);rintro e w55 ⟨rfl,hb⟩;have n0_:=Aside0.mk (Kd.R_below (by (with_reducible repeat (first|apply Kd.R_alloc|apply Kd.R_drewN|apply Kd.R_drew));exact (rf4_ (g:=Qy) (Kd.R_types HO120.out Qe.out (by decide)))) hb);have n1_:=kb_ Qa hb;have n2_:=kb_ Qb hb;have n3_:=kb_ Qc hb;have n4_:=kb_ Qd hb;have n5_:=Aside0.mk (blk_below (g:=Qy) (o:=.cells #[.int .i64 Zl,.int .i64 Zp,.int .i64 Zs,.bool ZE] 25 (0,0)) (by (with_reducible repeat (first|refine blk_drewN ?_ _|refine blk_drew ?_|refine blk_alloc ?_ _));refine blk_put (cs:=#[.int .i64 Zl,.int .i64 Zp,.int .i64 Zs,.bool false]) ?_ 3 _ rfl;(with_reducible repeat (first|refine blk_drewN ?_ _|refine blk_drew ?_|refine blk_alloc ?_ _));refine blk_put (cs:=#[.int .i64 Zl,.int .i64 Zp,.int .i64 0,.bool false]) ?_ 2 _ rfl;(with_reducible repeat (first|refine blk_drewN ?_ _|refine blk_drew ?_|refine blk_alloc ?_ _));refine blk_put (cs:=#[.int .i64 Zl,.int .i64 0,.int .i64 0,.bool false]) ?_ 1 _ rfl;(with_reducible repeat (first|refine blk_drewN ?_ _|refine blk_drew ?_|refine blk_alloc ?_ _));refine blk_put (cs:=#[.int .i64 0,.int .i64 0,.int .i64 0,.bool false]) ?_ 0 _ rfl;(with_reducible repeat (first|refine blk_drewN ?_ _|refine blk_drew ?_|refine blk_alloc ?_ _));exact Qe.out) hb);have n6_:=ks_ HB hb;clear HO120;clear Qa;clear Qb;clear Qc;clear Qd;clear Qe;clear HB;have HO120:=n0_;have Qa:=n1_;have Qb:=n2_;have Qc:=n3_;have Qd:=n4_;have Qe:=n5_;have HB:=n6_;clear n0_ n1_ n2_ n3_ n4_ n5_ n6_;(try clear hb);(try clear hb2);(try clear hk);(try clear hi))|((with_reducible refine gate_dst (N:=25) rfl ?_);(try (refine gate_guard (by rfl) ?_;dsimp only));refine box_event ?hg (N:=25) ?hd (cs:=#[.int .i64 0,.int .i64 0,.int .i64 0,.bool false]) (t:=25) ?hr ?_;(case hd=>rfl);(case hg=>rfl);(case hr=>first|(go_simp;done)|(go_simp;rfl));intro Qz hg w56 hbox hb;have n0_:=kr_ HO120 hb;have n1_:=kb_ Qa hb;have n2_:=kb_ Qb hb;have n3_:=kb_ Qc hb;have n4_:=kb_ Qd hb;have n5_:=kb_ Qe hb;have n6_:=ks_ HB hb;have n7_:=Aside0.mk (hbox);have n8_:=Aside0.mk ((by rw [hg];exact (kz_ HB) : w.heap.size ≤ Qz));have n9_:=Aside0.mk ((by rw [hg];exact (kz_ HB) : w.heap.size ≤ Qz));have n10_:=nl_ Qa hg;have n11_:=ng_ Qa hg;have n12_:=nl_ Qb hg;have n13_:=ng_ Qb hg;have n14_:=nl_ Qc hg;have n15_:=ng_ Qc hg;have n16_:=nl_ Qd hg;have n17_:=ng_ Qd hg;have n18_:=nl_ Qe hg;have n19_:=ng_ Qe hg;clear HO120;clear Qa;clear Qb;clear Qc;clear Qd;clear Qe;clear HB;have HO120:=n0_;have Qa:=n1_;have Qb:=n2_;have Qc:=n3_;have Qd:=n4_;have Qe:=n5_;have HB:=n6_;have Ql:=n7_;have GW150:=n8_;have Xa:=n9_;have Zb:=n10_;have ZD:=n11_;have QF:=n12_;have Zc:=n13_;have QG:=n14_;have Zd:=n15_;have QH:=n16_;have Ze:=n17_;have QI:=n18_;have Zf:=n19_;clear n0_ n1_ n2_ n3_ n4_ n5_ n6_ n7_ n8_ n9_ n10_ n11_ n12_ n13_ n14_ n15_ n16_ n17_ n18_ n19_;clear hb hbox hg;have hnb57:=ZD.out;have hnc57:=Zb.out;have hnb58:=Zc.out;have hnc58:=QF.out;have hnb59:=Zd.out;have hnc59:=QG.out;have hnb60:=Ze.out;have hnc60:=QH.out;have hnb61:=Zf.out;have hnc61:=QI.out;have hcz62_0 : w56.cell? ⟨Qz,0,none⟩ = some (.int .i64 0):=(blk_cell Ql.out 0).trans rfl;have hcz62_1 : w56.cell? ⟨Qz,1,none⟩ = some (.int .i64 0):=(blk_cell Ql.out 1).trans rfl;have hcz62_2 : w56.cell? ⟨Qz,2,none⟩ = some (.int .i64 0):=(blk_cell Ql.out 2).trans rfl;have hcz62_3 : w56.cell? ⟨Qz,3,none⟩ = some (.bool false):=(blk_cell Ql.out 3).trans rfl;have hfz62_0:=blk_frozen Ql.out 0;have hfz62_1:=blk_frozen Ql.out 1;have hfz62_2:=blk_frozen Ql.out 2;have hfz62_3:=blk_frozen Ql.out 3)))
              go_loopg [94] k2 (fun kq v94 w'=>∃ (Zg : Int),v94 = .int .i64 Zg∧Aside0 (vesperslaw15_ResyncTurns.l1 kq l2 a4 QK ZL ZM ZO ZP ZQ ZR ZS ZT ZV ZX (QK.length : Int) Zg Qn Qm Qo Qp Qq Qr Qs Qt Qu Qv Qf Qg Qh Qi Qj Qk Zh Zm Zq Zt Zk Zo Zr Zw Zl Zp Zs ZE ZF ZG ZH ZI = some r)∧Aside0 (kq ≤ k2)∧Aside0 (Kd.R (Kd.int .i64) 2 w' w.heap.size (fun _=>True) (.slice Ao27 QK.length co27) QK)∧Aside0 (w'.heap[QD]? = some (.cells #[.int .i64 Qn,.int .i64 Qm,.int .i64 Qo,.int .i64 Qp,.int .i64 Qq,.int .i64 Qr,.int .i64 Qs,.int .i64 Qt,.int .i64 Qu,.int .i64 Qv,.int .i64 Qf,.int .i64 Qg,.int .i64 Qh,.int .i64 Qi,.int .i64 Qj,.int .i64 Qk] 23 (0,0)))∧Aside0 (w'.heap[QE]? = some (.cells #[.int .i64 QL,.int .i64 QM,.int .i64 QN,.bool QO] 25 (0,0)))∧Aside0 (w'.heap[Qw]? = some (.cells #[.int .i64 Zh,.int .i64 Zm,.int .i64 Zq,.bool Zt] 25 (0,0)))∧Aside0 (w'.heap[Qx]? = some (.cells #[.int .i64 Zk,.int .i64 Zo,.int .i64 Zr,.bool Zw] 25 (0,0)))∧Aside0 (w'.heap[Qy]? = some (.cells #[.int .i64 Zl,.int .i64 Zp,.int .i64 Zs,.bool ZE] 25 (0,0)))∧Aside0 (w'.heap[Qz]? = some (.cells #[.int .i64 ZF,.int .i64 ZG,.int .i64 ZH,.bool ZI] 25 (0,0)))∧Aside0 (Below w.heap.size w w'))
              case atStart=>exact ⟨(0),(by first|rfl|(simp;done)|(simp [*];done)),H',⟨Nat.le_refl _⟩,⟨by (with_reducible repeat (first|apply Kd.R_alloc|apply Kd.R_drewN|apply Kd.R_drew));exact Kd.R_mono (Kd.R_far (p:=⟨Qz,3,none⟩) (Kd.R_far (p:=⟨Qz,2,none⟩) (Kd.R_far (p:=⟨Qz,1,none⟩) (Kd.R_far (p:=⟨Qz,0,none⟩) (Kd.R_types HO120.out Ql.out (by decide)) (fun _ hk=>hk.2) (.int .i64 ZF)) (fun _ hk=>hk.2) (.int .i64 ZG)) (fun _ hk=>hk.2) (.int .i64 ZH)) (fun _ hk=>hk.2) (.bool ZI)) (fun _ hk=>trivial)⟩,⟨by (with_reducible repeat (first|refine blk_drewN ?_ _|refine blk_drew ?_|refine blk_alloc ?_ _));refine blk_far ?_ Zb.out _;(with_reducible repeat (first|refine blk_drewN ?_ _|refine blk_drew ?_|refine blk_alloc ?_ _));refine blk_far ?_ Zb.out _;(with_reducible repeat (first|refine blk_drewN ?_ _|refine blk_drew ?_|refine blk_alloc ?_ _));refine blk_far ?_ Zb.out _;(with_reducible repeat (first|refine blk_drewN ?_ _|refine blk_drew ?_|refine blk_alloc ?_ _));refine blk_far ?_ Zb.out _;(with_reducible repeat (first|refine blk_drewN ?_ _|refine blk_drew ?_|refine blk_alloc ?_ _));exact Qa.out⟩,⟨by (with_reducible repeat (first|refine blk_drewN ?_ _|refine blk_drew ?_|refine blk_alloc ?_ _));refine blk_far ?_ QF.out _;(with_reducible repeat (first|refine blk_drewN ?_ _|refine blk_drew ?_|refine blk_alloc ?_ _));refine blk_far ?_ QF.out _;(with_reducible repeat (first|refine blk_drewN ?_ _|refine blk_drew ?_|refine blk_alloc ?_ _));refine blk_far ?_ QF.out _;(with_reducible repeat (first|refine blk_drewN ?_ _|refine blk_drew ?_|refine blk_alloc ?_ _));refine blk_far ?_ QF.out _;(with_reducible repeat (first|refine blk_drewN ?_ _|refine blk_drew ?_|refine blk_alloc ?_ _));exact Qb.out⟩,⟨by (with_reducible repeat (first|refine blk_drewN ?_ _|refine blk_drew ?_|refine blk_alloc ?_ _));refine blk_far ?_ QG.out _;(with_reducible repeat (first|refine blk_drewN ?_ _|refine blk_drew ?_|refine blk_alloc ?_ _));refine blk_far ?_ QG.out _;(with_reducible repeat (first|refine blk_drewN ?_ _|refine blk_drew ?_|refine blk_alloc ?_ _));refine blk_far ?_ QG.out _;(with_reducible repeat (first|refine blk_drewN ?_ _|refine blk_drew ?_|refine blk_alloc ?_ _));refine blk_far ?_ QG.out _;(with_reducible repeat (first|refine blk_drewN ?_ _|refine blk_drew ?_|refine blk_alloc ?_ _));exact Qc.out⟩,⟨by (with_reducible repeat (first|refine blk_drewN ?_ _|refine blk_drew ?_|refine blk_alloc ?_ _));refine blk_far ?_ QH.out _;(with_reducible repeat (first|refine blk_drewN ?_ _|refine blk_drew ?_|refine blk_alloc ?_ _));refine blk_far ?_ QH.out _;(with_reducible repeat (first|refine blk_drewN ?_ _|refine blk_drew ?_|refine blk_alloc ?_ _));refine blk_far ?_ QH.out _;(with_reducible repeat (first|refine blk_drewN ?_ _|refine blk_drew ?_|refine blk_alloc ?_ _));refine blk_far ?_ QH.out _;(with_reducible repeat (first|refine blk_drewN ?_ _|refine blk_drew ?_|refine blk_alloc ?_ _));exact Qd.out⟩,⟨by (with_reducible repeat (first|refine blk_drewN ?_ _|refine blk_drew ?_|refine blk_alloc ?_ _));refine blk_far ?_ QI.out _;(with_reducible repeat (first|refine blk_drewN ?_ _|refine blk_drew ?_|refine blk_alloc ?_ _));refine blk_far ?_ QI.out _;(with_reducible repeat (first|refine blk_drewN ?_ _|refine blk_drew ?_|refine blk_alloc ?_ _));refine blk_far ?_ QI.out _;(with_reducible repeat (first|refine blk_drewN ?_ _|refine blk_drew ?_|refine blk_alloc ?_ _));refine blk_far ?_ QI.out _;(with_reducible repeat (first|refine blk_drewN ?_ _|refine blk_drew ?_|refine blk_alloc ?_ _));exact Qe.out⟩,⟨by (with_reducible repeat (first|refine blk_drewN ?_ _|refine blk_drew ?_|refine blk_alloc ?_ _));refine blk_put (cs:=#[.int .i64 ZF,.int .i64 ZG,.int .i64 ZH,.bool false]) ?_ 3 _ rfl;(with_reducible repeat (first|refine blk_drewN ?_ _|refine blk_drew ?_|refine blk_alloc ?_ _));refine blk_put (cs:=#[.int .i64 ZF,.int .i64 ZG,.int .i64 0,.bool false]) ?_ 2 _ rfl;(with_reducible repeat (first|refine blk_drewN ?_ _|refine blk_drew ?_|refine blk_alloc ?_ _));refine blk_put (cs:=#[.int .i64 ZF,.int .i64 0,.int .i64 0,.bool false]) ?_ 1 _ rfl;(with_reducible repeat (first|refine blk_drewN ?_ _|refine blk_drew ?_|refine blk_alloc ?_ _));refine blk_put (cs:=#[.int .i64 0,.int .i64 0,.int .i64 0,.bool false]) ?_ 0 _ rfl;(with_reducible repeat (first|refine blk_drewN ?_ _|refine blk_drew ?_|refine blk_alloc ?_ _));exact Ql.out⟩,⟨by repeat (first|(with_reducible first|exact HB.out|apply below_alloc|apply pw_below_drewN|apply below_drew1|refine below_set ?_ Zi.out|refine below_set ?_ Zj.out|refine below_set ?_ ZJ.out|refine below_set ?_ ZK.out|refine below_set ?_ ZW.out|refine below_set ?_ Xa.out)|exact HB.out)⟩⟩
              case round =>
               clear H'
               try clear c1
               try clear p1
               try clear q1
               try clear hx1
               try clear c2
               try clear p2
               try clear c3
               try clear c4
               try clear c5
               try clear c6
               try clear p6
               try clear c9
               try clear c9b0
               try clear c9b1
               try clear c10
               try clear c11
               try clear c11b0
               try clear p11
               try clear q11
               try clear hx11
               try clear c12
               try clear c12b0
               try clear c13
               try clear c13b0
               try clear c14
               try clear c14b0
               try clear c14b1
               try clear c15
               try clear c25
               try clear c35
               try clear c36
               try clear c42
               try clear c43
               try clear c44
               try clear c49
               try clear c50
               try clear c51
               try clear c52
               try clear c57
               try clear c58
               try clear c59
               try clear c60
               try clear c61
               try clear hcz26_0
               try clear hcz26_1
               try clear hcz26_10
               try clear hcz26_11
               try clear hcz26_12
               try clear hcz26_13
               try clear hcz26_14
               try clear hcz26_15
               try clear hcz26_2
               try clear hcz26_3
               try clear hcz26_4
               try clear hcz26_5
               try clear hcz26_6
               try clear hcz26_7
               try clear hcz26_8
               try clear hcz26_9
               try clear hcz29_0
               try clear hcz29_1
               try clear hcz29_10
               try clear hcz29_11
               try clear hcz29_12
               try clear hcz29_13
               try clear hcz29_14
               try clear hcz29_15
               try clear hcz29_2
               try clear hcz29_3
               try clear hcz29_4
               try clear hcz29_5
               try clear hcz29_6
               try clear hcz29_7
               try clear hcz29_8
               try clear hcz29_9
               try clear hcz31_0
               try clear hcz31_1
               try clear hcz31_10
               try clear hcz31_11
               try clear hcz31_12
               try clear hcz31_13
               try clear hcz31_14
               try clear hcz31_15
               try clear hcz31_2
               try clear hcz31_3
               try clear hcz31_4
               try clear hcz31_5
               try clear hcz31_6
               try clear hcz31_7
               try clear hcz31_8
               try clear hcz31_9
               try clear hcz32_0
               try clear hcz32_1
               try clear hcz32_2
               try clear hcz32_3
               try clear hcz37_0
               try clear hcz37_1
               try clear hcz37_2
               try clear hcz37_3
               try clear hcz38_0
               try clear hcz38_1
               try clear hcz38_10
               try clear hcz38_11
               try clear hcz38_12
               try clear hcz38_13
               try clear hcz38_14
               try clear hcz38_15
               try clear hcz38_2
               try clear hcz38_3
               try clear hcz38_4
               try clear hcz38_5
               try clear hcz38_6
               try clear hcz38_7
               try clear hcz38_8
               try clear hcz38_9
               try clear hcz39_0
               try clear hcz39_1
               try clear hcz39_2
               try clear hcz39_3
               try clear hcz45_0
               try clear hcz45_1
               try clear hcz45_2
               try clear hcz45_3
               try clear hcz46_0
               try clear hcz46_1
               try clear hcz46_10
               try clear hcz46_11
               try clear hcz46_12
               try clear hcz46_13
               try clear hcz46_14
               try clear hcz46_15
               try clear hcz46_2
               try clear hcz46_3
               try clear hcz46_4
               try clear hcz46_5
               try clear hcz46_6
               try clear hcz46_7
               try clear hcz46_8
               try clear hcz46_9
               try clear hcz53_0
               try clear hcz53_1
               try clear hcz53_2
               try clear hcz53_3
               try clear hcz54_0
               try clear hcz54_1
               try clear hcz54_10
               try clear hcz54_11
               try clear hcz54_12
               try clear hcz54_13
               try clear hcz54_14
               try clear hcz54_15
               try clear hcz54_2
               try clear hcz54_3
               try clear hcz54_4
               try clear hcz54_5
               try clear hcz54_6
               try clear hcz54_7
               try clear hcz54_8
               try clear hcz54_9
               try clear hcz62_0
               try clear hcz62_1
               try clear hcz62_2
               try clear hcz62_3
               try clear hfz26_0
               try clear hfz26_1
               try clear hfz26_10
               try clear hfz26_11
               try clear hfz26_12
               try clear hfz26_13
               try clear hfz26_14
               try clear hfz26_15
               try clear hfz26_2
               try clear hfz26_3
               try clear hfz26_4
               try clear hfz26_5
               try clear hfz26_6
               try clear hfz26_7
               try clear hfz26_8
               try clear hfz26_9
               try clear hfz29_0
               try clear hfz29_1
               try clear hfz29_10
               try clear hfz29_11
               try clear hfz29_12
               try clear hfz29_13
               try clear hfz29_14
               try clear hfz29_15
               try clear hfz29_2
               try clear hfz29_3
               try clear hfz29_4
               try clear hfz29_5
               try clear hfz29_6
               try clear hfz29_7
               try clear hfz29_8
               try clear hfz29_9
               try clear hfz31_0
               try clear hfz31_1
               try clear hfz31_10
               try clear hfz31_11
               try clear hfz31_12
               try clear hfz31_13
               try clear hfz31_14
               try clear hfz31_15
               try clear hfz31_2
               try clear hfz31_3
               try clear hfz31_4
               try clear hfz31_5
               try clear hfz31_6
               try clear hfz31_7
               try clear hfz31_8
               try clear hfz31_9
               try clear hfz32_0
               try clear hfz32_1
               try clear hfz32_2
               try clear hfz32_3
               try clear hfz37_0
               try clear hfz37_1
               try clear hfz37_2
               try clear hfz37_3
               try clear hfz38_0
               try clear hfz38_1
               try clear hfz38_10
               try clear hfz38_11
               try clear hfz38_12
               try clear hfz38_13
               try clear hfz38_14
               try clear hfz38_15
               try clear hfz38_2
               try clear hfz38_3
               try clear hfz38_4
               try clear hfz38_5
               try clear hfz38_6
               try clear hfz38_7
               try clear hfz38_8
               try clear hfz38_9
               try clear hfz39_0
               try clear hfz39_1
               try clear hfz39_2
               try clear hfz39_3
               try clear hfz45_0
               try clear hfz45_1
               try clear hfz45_2
               try clear hfz45_3
               try clear hfz46_0
               try clear hfz46_1
               try clear hfz46_10
               try clear hfz46_11
               try clear hfz46_12
               try clear hfz46_13
               try clear hfz46_14
               try clear hfz46_15
               try clear hfz46_2
               try clear hfz46_3
               try clear hfz46_4
               try clear hfz46_5
               try clear hfz46_6
               try clear hfz46_7
               try clear hfz46_8
               try clear hfz46_9
               try clear hfz53_0
               try clear hfz53_1
               try clear hfz53_2
               try clear hfz53_3
               try clear hfz54_0
               try clear hfz54_1
               try clear hfz54_10
               try clear hfz54_11
               try clear hfz54_12
               try clear hfz54_13
               try clear hfz54_14
               try clear hfz54_15
               try clear hfz54_2
               try clear hfz54_3
               try clear hfz54_4
               try clear hfz54_5
               try clear hfz54_6
               try clear hfz54_7
               try clear hfz54_8
               try clear hfz54_9
               try clear hfz62_0
               try clear hfz62_1
               try clear hfz62_2
               try clear hfz62_3
               try clear hx114_0
               try clear p114
               try clear p2
               try clear q114
               obtain ⟨Zg,rfl,HA,HK3,HO_12,Qa,Qb,Qc,Qd,Qe,Ql,HB⟩:=hrel
               cases gk with
               | zero=>exact absurd HA.out (by simp [vesperslaw15_ResyncTurns.l1])
               | succ k3 =>
                have H:=HA.out
                clear HA
                simp only [vesperslaw15_ResyncTurns.l1] at H
                by_cases c63 : Zg < (QK.length : Int)
                ·as_aux_lemma =>
                  rw [if_pos c63] at H
                  have c63b0 : decide (Zg < (QK.length : Int)) = true:=decide_eq_true c63
                  clear c63
                  by_cases c64 : 0 ≤ Zg
                  ·as_aux_lemma =>
                    rw [if_pos c64] at H
                    have c64b0 : decide (0 ≤ Zg) = true:=decide_eq_true c64
                    clear c64
                    by_cases c65 : Zg < (QK.length : Int)
                    ·as_aux_lemma =>
                      rw [if_pos c65] at H
                      have c65b0 : decide (Zg < (QK.length : Int)) = true:=decide_eq_true c65
                      clear c65
                      by_cases c66 : Zg < (l2.length : Int)
                      ·as_aux_lemma =>
                        rw [if_pos c66] at H
                        have c66b0 : decide (Zg < (l2.length : Int)) = true:=decide_eq_true c66
                        clear c66
                        by_cases c67 : (rd QK Zg) = (rd l2 Zg)
                        ·as_aux_lemma =>
                          rw [if_pos c67] at H
                          have c67b0 : ((rd QK Zg) == (rd l2 Zg)) = true:=beq_iff_eq.mpr c67
                          have c67b1 : ((rd QK Zg) != (rd l2 Zg)) = false:=bne_eq_false_iff_eq.mpr c67
                          clear c67
                          have H':=Aside0.mk H
                          clear H
                          have p151 : 0 ≤ (Zg : Int):=of_decide_eq_true (by first|(with_reducible assumption)|assumption)
                          have q151 : Zg < (QK.length : Int):=of_decide_eq_true (by first|(with_reducible assumption)|assumption)
                          obtain ⟨ad151,e151,hx151_0⟩:=Kd.at_int (Kd.R_reads' HO_12.out).2.2 Zg p151 q151
                          cases e151
                          replace p151:=eq_true p151
                          replace q151:=eq_true q151
                          have p152 : 0 ≤ (Zg : Int):=of_decide_eq_true (by first|(with_reducible assumption)|assumption)
                          have q152 : Zg < (l2.length : Int):=of_decide_eq_true (by first|(with_reducible assumption)|assumption)
                          obtain ⟨ad152,e152,hx152_0⟩:=Kd.at_int HR2.out Zg p152 q152
                          cases e152
                          replace hx152_0:=(HB.out.cell (World.block_lt_of_cell? w _ hx152_0)).trans hx152_0
                          replace p152:=eq_true p152
                          replace q152:=eq_true q152
                          go_wp2
                          repeat (go_quiet (fail);try go_wp2)
                          go_roundg k3
                          case measure=>have:=HJ5.out;have:=HK2.out;have:=HK3.out;omega
                          case rel=>exact ⟨(wrap64 (Zg + 1)),(by first|rfl|(simp;done)|(simp [*];done)),H',⟨by have:=HJ5.out;have:=HK2.out;have:=HK3.out;omega⟩,⟨by (with_reducible repeat (first|apply Kd.R_alloc|apply Kd.R_drewN|apply Kd.R_drew));exact HO_12.out⟩,⟨by (with_reducible repeat (first|refine blk_drewN ?_ _|refine blk_drew ?_|refine blk_alloc ?_ _));exact Qa.out⟩,⟨by (with_reducible repeat (first|refine blk_drewN ?_ _|refine blk_drew ?_|refine blk_alloc ?_ _));exact Qb.out⟩,⟨by (with_reducible repeat (first|refine blk_drewN ?_ _|refine blk_drew ?_|refine blk_alloc ?_ _));exact Qc.out⟩,⟨by (with_reducible repeat (first|refine blk_drewN ?_ _|refine blk_drew ?_|refine blk_alloc ?_ _));exact Qd.out⟩,⟨by (with_reducible repeat (first|refine blk_drewN ?_ _|refine blk_drew ?_|refine blk_alloc ?_ _));exact Qe.out⟩,⟨by (with_reducible repeat (first|refine blk_drewN ?_ _|refine blk_drew ?_|refine blk_alloc ?_ _));exact Ql.out⟩,⟨by repeat (first|(with_reducible first|exact HB.out|apply below_alloc|apply pw_below_drewN|apply below_drew1|refine below_set ?_ Zi.out|refine below_set ?_ Zj.out|refine below_set ?_ ZJ.out|refine below_set ?_ ZK.out|refine below_set ?_ ZW.out|refine below_set ?_ Xa.out)|exact HB.out)⟩⟩
                        ·rw [if_neg c67] at H
                         exact absurd H (by simp)
                      ·rw [if_neg c66] at H
                       exact absurd H (by simp)
                    ·rw [if_neg c65] at H
                     exact absurd H (by simp)
                  ·rw [if_neg c64] at H
                   exact absurd H (by simp)
                ·as_aux_lemma =>
                  rw [if_neg c63] at H
                  have c63b0 : decide (Zg < (QK.length : Int)) = false:=decide_eq_false c63
                  clear c63
                  replace H:=Option.bind_eq_some_iff.mp H
                  obtain ⟨ZU,A680,H⟩:=H
                  replace H : (if ZU = 0 then (if ZL = ZO then (if ZM = ZP then (if (Zh == Zk && (Zm == Zo && (Zq == Zr && (Zt == Zw)))) = true then (if ZQ = ZS then (if ZR = ZT then (if (Zl == ZF && (Zp == ZG && (Zs == ZH && (ZE == ZI)))) = true then (if ZV = ZX then ((resync_Enough.f Qn Qm Qo Qp Qq Qr Qs Qt Qu Qv Qf Qg Qh Qi Qj Qk a4).bind fun t154=>(some (t154 == (decide (a4 > (wrap64 (2 * Qm))))))) else (none)) else (none)) else (none)) else (none)) else (none)) else (none)) else (none)) else (if ZL = ZO then (if ZM = ZP then (if (Zh == Zk && (Zm == Zo && (Zq == Zr && (Zt == Zw)))) = true then (if ZQ = ZS then (if ZR = ZT then (if (Zl == ZF && (Zp == ZG && (Zs == ZH && (ZE == ZI)))) = true then (if ZV = ZX then ((resync_Enough.f Qn Qm Qo Qp Qq Qr Qs Qt Qu Qv Qf Qg Qh Qi Qj Qk a4).bind fun t155=>(some (t155 == false))) else (none)) else (none)) else (none)) else (none)) else (none)) else (none)) else (none))) = some r:=H
                  have A68:=Aside0.mk A680
                  clear A680
                  by_cases c69 : ZU = 0
                  ·as_aux_lemma =>
                    rw [if_pos c69] at H
                    have c69b0 : (ZU == 0) = true:=beq_iff_eq.mpr c69
                    have c69b1 : (ZU != 0) = false:=bne_eq_false_iff_eq.mpr c69
                    clear c69
                    by_cases c70 : ZL = ZO
                    ·as_aux_lemma =>
                      rw [if_pos c70] at H
                      have c70b0 : (ZL == ZO) = true:=beq_iff_eq.mpr c70
                      have c70b1 : (ZL != ZO) = false:=bne_eq_false_iff_eq.mpr c70
                      clear c70
                      by_cases c71 : ZM = ZP
                      ·as_aux_lemma =>
                        rw [if_pos c71] at H
                        have c71b0 : (ZM == ZP) = true:=beq_iff_eq.mpr c71
                        have c71b1 : (ZM != ZP) = false:=bne_eq_false_iff_eq.mpr c71
                        clear c71
                        by_cases c72 : (Zh == Zk && (Zm == Zo && (Zq == Zr && (Zt == Zw)))) = true
                        ·as_aux_lemma =>
                          rw [if_pos c72] at H
                          have c72b0 : (Zh == Zk && (Zm == Zo && (Zq == Zr && (Zt == Zw)))) = true:=c72
                          (try (have c72b1 : decide (Zh = Zk && (Zm == Zo && (Zq == Zr && (Zt == Zw)))) = true:=by simpa using c72))
                          (try (have c72b2 : (Zh == Zk && (Zm == Zo && (Zq == Zr && (Zt == Zw)))) = true:=by simpa using c72))
                          clear c72
                          by_cases c73 : ZQ = ZS
                          ·as_aux_lemma =>
                            rw [if_pos c73] at H
                            have c73b0 : (ZQ == ZS) = true:=beq_iff_eq.mpr c73
                            have c73b1 : (ZQ != ZS) = false:=bne_eq_false_iff_eq.mpr c73
                            clear c73
                            by_cases c74 : ZR = ZT
                            ·as_aux_lemma =>
                              rw [if_pos c74] at H
                              have c74b0 : (ZR == ZT) = true:=beq_iff_eq.mpr c74
                              have c74b1 : (ZR != ZT) = false:=bne_eq_false_iff_eq.mpr c74
                              clear c74
                              by_cases c75 : (Zl == ZF && (Zp == ZG && (Zs == ZH && (ZE == ZI)))) = true
                              ·as_aux_lemma =>
                                rw [if_pos c75] at H
                                have c75b0 : (Zl == ZF && (Zp == ZG && (Zs == ZH && (ZE == ZI)))) = true:=c75
                                (try (have c75b1 : decide (Zl = ZF && (Zp == ZG && (Zs == ZH && (ZE == ZI)))) = true:=by simpa using c75))
                                (try (have c75b2 : (Zl == ZF && (Zp == ZG && (Zs == ZH && (ZE == ZI)))) = true:=by simpa using c75))
                                clear c75
                                by_cases c76 : ZV = ZX
                                ·as_aux_lemma =>
                                  rw [if_pos c76] at H
                                  have c76b0 : (ZV == ZX) = true:=beq_iff_eq.mpr c76
                                  have c76b1 : (ZV != ZX) = false:=bne_eq_false_iff_eq.mpr c76
                                  clear c76
                                  replace H:=Option.bind_eq_some_iff.mp H
                                  obtain ⟨t154,A770,H⟩:=H
                                  replace H : (some (t154 == (decide (a4 > (wrap64 (2 * Qm)))))) = some r:=H
                                  have A77:=Aside0.mk A770
                                  clear A770
                                  obtain rfl:=Option.some.inj H
                                  have hnb78:=Zu.out
                                  have hnc78:=Zv.out
                                  have hnb79:=Zx.out
                                  have hnc79:=Zy.out
                                  have hnb80:=Zz.out
                                  have hnc80:=ZA.out
                                  have hnb81:=ZB.out
                                  have hnc81:=ZC.out
                                  have hnb82:=Zb.out
                                  have hnc82:=ZD.out
                                  obtain ⟨hcz83_0,hcz83_1,hcz83_2,hcz83_3,hcz83_4,hcz83_5,hcz83_6,hcz83_7,hcz83_8,hcz83_9,hcz83_10,hcz83_11,hcz83_12,hcz83_13,hcz83_14,hcz83_15⟩:=bc16_ (w:=wr) (g:=QD) (.int .i64 Qn) (.int .i64 Qm) (.int .i64 Qo) (.int .i64 Qp) (.int .i64 Qq) (.int .i64 Qr) (.int .i64 Qs) (.int .i64 Qt) (.int .i64 Qu) (.int .i64 Qv) (.int .i64 Qf) (.int .i64 Qg) (.int .i64 Qh) (.int .i64 Qi) (.int .i64 Qj) (.int .i64 Qk) Qa.out
                                  obtain ⟨hfz83_0,hfz83_1,hfz83_2,hfz83_3,hfz83_4,hfz83_5,hfz83_6,hfz83_7,hfz83_8,hfz83_9,hfz83_10,hfz83_11,hfz83_12,hfz83_13,hfz83_14,hfz83_15⟩:=bf16_ Qa.out
                                  go_wp2_with (first|(go_at_call 13;(with_reducible refine (vespersref07_Check.calls k3 Qn Qm Qo Qp Qq Qr Qs Qt Qu Qv Qf Qg Qh Qi Qj Qk ZU _ A68.out).mono ?_);rintro e w84 ⟨rfl,hb⟩;have n0_:=kb_ Qa hb;have n1_:=kb_ Qb hb;have n2_:=kb_ Qc hb;have n3_:=kb_ Qd hb;have n4_:=kb_ Qe hb;have n5_:=kb_ Ql hb;have n6_:=ks_ HB hb;clear Qa;clear Qb;clear Qc;clear Qd;clear Qe;clear Ql;clear HB;have Qa:=n0_;have Qb:=n1_;have Qc:=n2_;have Qd:=n3_;have Qe:=n4_;have Ql:=n5_;have HB:=n6_;clear n0_ n1_ n2_ n3_ n4_ n5_ n6_;(try clear hb);(try clear hb2);(try clear hk);(try clear hi);obtain ⟨hcz85_0,hcz85_1,hcz85_2,hcz85_3,hcz85_4,hcz85_5,hcz85_6,hcz85_7,hcz85_8,hcz85_9,hcz85_10,hcz85_11,hcz85_12,hcz85_13,hcz85_14,hcz85_15⟩:=bc16_ (w:=w84) (g:=QD) (.int .i64 Qn) (.int .i64 Qm) (.int .i64 Qo) (.int .i64 Qp) (.int .i64 Qq) (.int .i64 Qr) (.int .i64 Qs) (.int .i64 Qt) (.int .i64 Qu) (.int .i64 Qv) (.int .i64 Qf) (.int .i64 Qg) (.int .i64 Qh) (.int .i64 Qi) (.int .i64 Qj) (.int .i64 Qk) Qa.out;obtain ⟨hfz85_0,hfz85_1,hfz85_2,hfz85_3,hfz85_4,hfz85_5,hfz85_6,hfz85_7,hfz85_8,hfz85_9,hfz85_10,hfz85_11,hfz85_12,hfz85_13,hfz85_14,hfz85_15⟩:=bf16_ Qa.out;have hnb86:=QQ.out;have hnc86:=QP.out;have hnb87:=QT.out;have hnc87:=QU.out;have hnb88:=QX.out;have hnc88:=QY.out;have hnb89:=QG.out;have hnc89:=Zd.out;have hcz90_0 : w84.cell? ⟨Qw,0,none⟩ = some (.int .i64 Zh):=(blk_cell Qc.out 0).trans rfl;have hcz90_1 : w84.cell? ⟨Qw,1,none⟩ = some (.int .i64 Zm):=(blk_cell Qc.out 1).trans rfl;have hcz90_2 : w84.cell? ⟨Qw,2,none⟩ = some (.int .i64 Zq):=(blk_cell Qc.out 2).trans rfl;have hcz90_3 : w84.cell? ⟨Qw,3,none⟩ = some (.bool Zt):=(blk_cell Qc.out 3).trans rfl;have hfz90_0:=blk_frozen Qc.out 0;have hfz90_1:=blk_frozen Qc.out 1;have hfz90_2:=blk_frozen Qc.out 2;have hfz90_3:=blk_frozen Qc.out 3;have hnb91:=QS.out;have hnc91:=QR.out;have hnb92:=QZ.out;have hnc92:=Za.out;have hnb93:=QH.out;have hnc93:=Ze.out;have hcz94_0 : w84.cell? ⟨Qx,0,none⟩ = some (.int .i64 Zk):=(blk_cell Qd.out 0).trans rfl;have hcz94_1 : w84.cell? ⟨Qx,1,none⟩ = some (.int .i64 Zo):=(blk_cell Qd.out 1).trans rfl;have hcz94_2 : w84.cell? ⟨Qx,2,none⟩ = some (.int .i64 Zr):=(blk_cell Qd.out 2).trans rfl;have hcz94_3 : w84.cell? ⟨Qx,3,none⟩ = some (.bool Zw):=(blk_cell Qd.out 3).trans rfl;have hfz94_0:=blk_frozen Qd.out 0;have hfz94_1:=blk_frozen Qd.out 1;have hfz94_2:=blk_frozen Qd.out 2;have hfz94_3:=blk_frozen Qd.out 3;have hnb95:=QW.out;have hnc95:=QV.out;have hnb96:=QI.out;have hnc96:=Zf.out;have hcz97_0 : w84.cell? ⟨Qy,0,none⟩ = some (.int .i64 Zl):=(blk_cell Qe.out 0).trans rfl;have hcz97_1 : w84.cell? ⟨Qy,1,none⟩ = some (.int .i64 Zp):=(blk_cell Qe.out 1).trans rfl;have hcz97_2 : w84.cell? ⟨Qy,2,none⟩ = some (.int .i64 Zs):=(blk_cell Qe.out 2).trans rfl;have hcz97_3 : w84.cell? ⟨Qy,3,none⟩ = some (.bool ZE):=(blk_cell Qe.out 3).trans rfl;have hfz97_0:=blk_frozen Qe.out 0;have hfz97_1:=blk_frozen Qe.out 1;have hfz97_2:=blk_frozen Qe.out 2;have hfz97_3:=blk_frozen Qe.out 3;have hnb98:=Zc.out;have hnc98:=QF.out;have hcz99_0 : w84.cell? ⟨Qz,0,none⟩ = some (.int .i64 ZF):=(blk_cell Ql.out 0).trans rfl;have hcz99_1 : w84.cell? ⟨Qz,1,none⟩ = some (.int .i64 ZG):=(blk_cell Ql.out 1).trans rfl;have hcz99_2 : w84.cell? ⟨Qz,2,none⟩ = some (.int .i64 ZH):=(blk_cell Ql.out 2).trans rfl;have hcz99_3 : w84.cell? ⟨Qz,3,none⟩ = some (.bool ZI):=(blk_cell Ql.out 3).trans rfl;have hfz99_0:=blk_frozen Ql.out 0;have hfz99_1:=blk_frozen Ql.out 1;have hfz99_2:=blk_frozen Ql.out 2;have hfz99_3:=blk_frozen Ql.out 3)|(go_at_call 14;(with_reducible refine (resync_Enough.calls Qn Qm Qo Qp Qq Qr Qs Qt Qu Qv Qf Qg Qh Qi Qj Qk a4 t154 _ A77.out).mono ?_);rintro e w100 ⟨rfl,hb⟩;have n0_:=kb_ Qa hb;have n1_:=kb_ Qb hb;have n2_:=kb_ Qc hb;have n3_:=kb_ Qd hb;have n4_:=kb_ Qe hb;have n5_:=kb_ Ql hb;have n6_:=ks_ HB hb;clear Qa;clear Qb;clear Qc;clear Qd;clear Qe;clear Ql;clear HB;have Qa:=n0_;have Qb:=n1_;have Qc:=n2_;have Qd:=n3_;have Qe:=n4_;have Ql:=n5_;have HB:=n6_;clear n0_ n1_ n2_ n3_ n4_ n5_ n6_;(try clear hb);(try clear hb2);(try clear hk);(try clear hi)))
                                  repeat (go_quiet (first|(go_at_call 13;(with_reducible refine (vespersref07_Check.calls k3 Qn Qm Qo Qp Qq Qr Qs Qt Qu Qv Qf Qg Qh Qi Qj Qk ZU _ A68.out).mono ?_);rintro e w84 ⟨rfl,hb⟩;have n0_:=kb_ Qa hb;have n1_:=kb_ Qb hb;have n2_:=kb_ Qc hb;have n3_:=kb_ Qd hb;have n4_:=kb_ Qe hb;have n5_:=kb_ Ql hb;have n6_:=ks_ HB hb;clear Qa;clear Qb;clear Qc;clear Qd;clear Qe;clear Ql;clear HB;have Qa:=n0_;have Qb:=n1_;have Qc:=n2_;have Qd:=n3_;have Qe:=n4_;have Ql:=n5_;have HB:=n6_;clear n0_ n1_ n2_ n3_ n4_ n5_ n6_;(try clear hb);(try clear hb2);(try clear hk);(try clear hi);obtain ⟨hcz85_0,hcz85_1,hcz85_2,hcz85_3,hcz85_4,hcz85_5,hcz85_6,hcz85_7,hcz85_8,hcz85_9,hcz85_10,hcz85_11,hcz85_12,hcz85_13,hcz85_14,hcz85_15⟩:=bc16_ (w:=w84) (g:=QD) (.int .i64 Qn) (.int .i64 Qm) (.int .i64 Qo) (.int .i64 Qp) (.int .i64 Qq) (.int .i64 Qr) (.int .i64 Qs) (.int .i64 Qt) (.int .i64 Qu) (.int .i64 Qv) (.int .i64 Qf) (.int .i64 Qg) (.int .i64 Qh) (.int .i64 Qi) (.int .i64 Qj) (.int .i64 Qk) Qa.out;obtain ⟨hfz85_0,hfz85_1,hfz85_2,hfz85_3,hfz85_4,hfz85_5,hfz85_6,hfz85_7,hfz85_8,hfz85_9,hfz85_10,hfz85_11,hfz85_12,hfz85_13,hfz85_14,hfz85_15⟩:=bf16_ Qa.out;have hnb86:=QQ.out;have hnc86:=QP.out;have hnb87:=QT.out;have hnc87:=QU.out;have hnb88:=QX.out;have hnc88:=QY.out;have hnb89:=QG.out;have hnc89:=Zd.out;have hcz90_0 : w84.cell? ⟨Qw,0,none⟩ = some (.int .i64 Zh):=(blk_cell Qc.out 0).trans rfl;have hcz90_1 : w84.cell? ⟨Qw,1,none⟩ = some (.int .i64 Zm):=(blk_cell Qc.out 1).trans rfl;have hcz90_2 : w84.cell? ⟨Qw,2,none⟩ = some (.int .i64 Zq):=(blk_cell Qc.out 2).trans rfl;have hcz90_3 : w84.cell? ⟨Qw,3,none⟩ = some (.bool Zt):=(blk_cell Qc.out 3).trans rfl;have hfz90_0:=blk_frozen Qc.out 0;have hfz90_1:=blk_frozen Qc.out 1;have hfz90_2:=blk_frozen Qc.out 2;have hfz90_3:=blk_frozen Qc.out 3;have hnb91:=QS.out;have hnc91:=QR.out;have hnb92:=QZ.out;have hnc92:=Za.out;have hnb93:=QH.out;have hnc93:=Ze.out;have hcz94_0 : w84.cell? ⟨Qx,0,none⟩ = some (.int .i64 Zk):=(blk_cell Qd.out 0).trans rfl;have hcz94_1 : w84.cell? ⟨Qx,1,none⟩ = some (.int .i64 Zo):=(blk_cell Qd.out 1).trans rfl;have hcz94_2 : w84.cell? ⟨Qx,2,none⟩ = some (.int .i64 Zr):=(blk_cell Qd.out 2).trans rfl;have hcz94_3 : w84.cell? ⟨Qx,3,none⟩ = some (.bool Zw):=(blk_cell Qd.out 3).trans rfl;have hfz94_0:=blk_frozen Qd.out 0;have hfz94_1:=blk_frozen Qd.out 1;have hfz94_2:=blk_frozen Qd.out 2;have hfz94_3:=blk_frozen Qd.out 3;have hnb95:=QW.out;have hnc95:=QV.out;have hnb96:=QI.out;have hnc96:=Zf.out;have hcz97_0 : w84.cell? ⟨Qy,0,none⟩ = some (.int .i64 Zl):=(blk_cell Qe.out 0).trans rfl;have hcz97_1 : w84.cell? ⟨Qy,1,none⟩ = some (.int .i64 Zp):=(blk_cell Qe.out 1).trans rfl;have hcz97_2 : w84.cell? ⟨Qy,2,none⟩ = some (.int .i64 Zs):=(blk_cell Qe.out 2).trans rfl;have hcz97_3 : w84.cell? ⟨Qy,3,none⟩ = some (.bool ZE):=(blk_cell Qe.out 3).trans rfl;have hfz97_0:=blk_frozen Qe.out 0;have hfz97_1:=blk_frozen Qe.out 1;have hfz97_2:=blk_frozen Qe.out 2;have hfz97_3:=blk_frozen Qe.out 3;have hnb98:=Zc.out;have hnc98:=QF.out;have hcz99_0 : w84.cell? ⟨Qz,0,none⟩ = some (.int .i64 ZF):=(blk_cell Ql.out 0).trans rfl;have hcz99_1 : w84.cell? ⟨Qz,1,none⟩ = some (.int .i64 ZG):=(blk_cell Ql.out 1).trans rfl;have hcz99_2 : w84.cell? ⟨Qz,2,none⟩ = some (.int .i64 ZH):=(blk_cell Ql.out 2).trans rfl;have hcz99_3 : w84.cell? ⟨Qz,3,none⟩ = some (.bool ZI):=(blk_cell Ql.out 3).trans rfl;have hfz99_0:=blk_frozen Ql.out 0;have hfz99_1:=blk_frozen Ql.out 1;have hfz99_2:=blk_frozen Ql.out 2;have hfz99_3:=blk_frozen Ql.out 3)|(go_at_call 14;(with_reducible refine (resync_Enough.calls Qn Qm Qo Qp Qq Qr Qs Qt Qu Qv Qf Qg Qh Qi Qj Qk a4 t154 _ A77.out).mono ?_);rintro e w100 ⟨rfl,hb⟩;have n0_:=kb_ Qa hb;have n1_:=kb_ Qb hb;have n2_:=kb_ Qc hb;have n3_:=kb_ Qd hb;have n4_:=kb_ Qe hb;have n5_:=kb_ Ql hb;have n6_:=ks_ HB hb;clear Qa;clear Qb;clear Qc;clear Qd;clear Qe;clear Ql;clear HB;have Qa:=n0_;have Qb:=n1_;have Qc:=n2_;have Qd:=n3_;have Qe:=n4_;have Ql:=n5_;have HB:=n6_;clear n0_ n1_ n2_ n3_ n4_ n5_ n6_;(try clear hb);(try clear hb2);(try clear hk);(try clear hi)));try go_wp2_with (first|(go_at_call 13;(with_reducible refine (vespersref07_Check.calls k3 Qn Qm Qo Qp Qq Qr Qs Qt Qu Qv Qf Qg Qh Qi Qj Qk ZU _ A68.out).mono ?_);rintro e w84 ⟨rfl,hb⟩;have n0_:=kb_ Qa hb;have n1_:=kb_ Qb hb;have n2_:=kb_ Qc hb;have n3_:=kb_ Qd hb;have n4_:=kb_ Qe hb;have n5_:=kb_ Ql hb;have n6_:=ks_ HB hb;clear Qa;clear Qb;clear Qc;clear Qd;clear Qe;clear Ql;clear HB;have Qa:=n0_;have Qb:=n1_;have Qc:=n2_;have Qd:=n3_;have Qe:=n4_;have Ql:=n5_;have HB:=n6_;clear n0_ n1_ n2_ n3_ n4_ n5_ n6_;(try clear hb);(try clear hb2);(try clear hk);(try clear hi);obtain ⟨hcz85_0,hcz85_1,hcz85_2,hcz85_3,hcz85_4,hcz85_5,hcz85_6,hcz85_7,hcz85_8,hcz85_9,hcz85_10,hcz85_11,hcz85_12,hcz85_13,hcz85_14,hcz85_15⟩:=bc16_ (w:=w84) (g:=QD) (.int .i64 Qn) (.int .i64 Qm) (.int .i64 Qo) (.int .i64 Qp) (.int .i64 Qq) (.int .i64 Qr) (.int .i64 Qs) (.int .i64 Qt) (.int .i64 Qu) (.int .i64 Qv) (.int .i64 Qf) (.int .i64 Qg) (.int .i64 Qh) (.int .i64 Qi) (.int .i64 Qj) (.int .i64 Qk) Qa.out;obtain ⟨hfz85_0,hfz85_1,hfz85_2,hfz85_3,hfz85_4,hfz85_5,hfz85_6,hfz85_7,hfz85_8,hfz85_9,hfz85_10,hfz85_11,hfz85_12,hfz85_13,hfz85_14,hfz85_15⟩:=bf16_ Qa.out;have hnb86:=QQ.out;have hnc86:=QP.out;have hnb87:=QT.out;have hnc87:=QU.out;have hnb88:=QX.out;have hnc88:=QY.out;have hnb89:=QG.out;have hnc89:=Zd.out;have hcz90_0 : w84.cell? ⟨Qw,0,none⟩ = some (.int .i64 Zh):=(blk_cell Qc.out 0).trans rfl;have hcz90_1 : w84.cell? ⟨Qw,1,none⟩ = some (.int .i64 Zm):=(blk_cell Qc.out 1).trans rfl;have hcz90_2 : w84.cell? ⟨Qw,2,none⟩ = some (.int .i64 Zq):=(blk_cell Qc.out 2).trans rfl;have hcz90_3 : w84.cell? ⟨Qw,3,none⟩ = some (.bool Zt):=(blk_cell Qc.out 3).trans rfl;have hfz90_0:=blk_frozen Qc.out 0;have hfz90_1:=blk_frozen Qc.out 1;have hfz90_2:=blk_frozen Qc.out 2;have hfz90_3:=blk_frozen Qc.out 3;have hnb91:=QS.out;have hnc91:=QR.out;have hnb92:=QZ.out;have hnc92:=Za.out;have hnb93:=QH.out;have hnc93:=Ze.out;have hcz94_0 : w84.cell? ⟨Qx,0,none⟩ = some (.int .i64 Zk):=(blk_cell Qd.out 0).trans rfl;have hcz94_1 : w84.cell? ⟨Qx,1,none⟩ = some (.int .i64 Zo):=(blk_cell Qd.out 1).trans rfl;have hcz94_2 : w84.cell? ⟨Qx,2,none⟩ = some (.int .i64 Zr):=(blk_cell Qd.out 2).trans rfl;have hcz94_3 : w84.cell? ⟨Qx,3,none⟩ = some (.bool Zw):=(blk_cell Qd.out 3).trans rfl;have hfz94_0:=blk_frozen Qd.out 0;have hfz94_1:=blk_frozen Qd.out 1;have hfz94_2:=blk_frozen Qd.out 2;have hfz94_3:=blk_frozen Qd.out 3;have hnb95:=QW.out;have hnc95:=QV.out;have hnb96:=QI.out;have hnc96:=Zf.out;have hcz97_0 : w84.cell? ⟨Qy,0,none⟩ = some (.int .i64 Zl):=(blk_cell Qe.out 0).trans rfl;have hcz97_1 : w84.cell? ⟨Qy,1,none⟩ = some (.int .i64 Zp):=(blk_cell Qe.out 1).trans rfl;have hcz97_2 : w84.cell? ⟨Qy,2,none⟩ = some (.int .i64 Zs):=(blk_cell Qe.out 2).trans rfl;have hcz97_3 : w84.cell? ⟨Qy,3,none⟩ = some (.bool ZE):=(blk_cell Qe.out 3).trans rfl;have hfz97_0:=blk_frozen Qe.out 0;have hfz97_1:=blk_frozen Qe.out 1;have hfz97_2:=blk_frozen Qe.out 2;have hfz97_3:=blk_frozen Qe.out 3;have hnb98:=Zc.out;have hnc98:=QF.out;have hcz99_0 : w84.cell? ⟨Qz,0,none⟩ = some (.int .i64 ZF):=(blk_cell Ql.out 0).trans rfl;have hcz99_1 : w84.cell? ⟨Qz,1,none⟩ = some (.int .i64 ZG):=(blk_cell Ql.out 1).trans rfl;have hcz99_2 : w84.cell? ⟨Qz,2,none⟩ = some (.int .i64 ZH):=(blk_cell Ql.out 2).trans rfl;have hcz99_3 : w84.cell? ⟨Qz,3,none⟩ = some (.bool ZI):=(blk_cell Ql.out 3).trans rfl;have hfz99_0:=blk_frozen Ql.out 0;have hfz99_1:=blk_frozen Ql.out 1;have hfz99_2:=blk_frozen Ql.out 2;have hfz99_3:=blk_frozen Ql.out 3)|(go_at_call 14;(with_reducible refine (resync_Enough.calls Qn Qm Qo Qp Qq Qr Qs Qt Qu Qv Qf Qg Qh Qi Qj Qk a4 t154 _ A77.out).mono ?_);rintro e w100 ⟨rfl,hb⟩;have n0_:=kb_ Qa hb;have n1_:=kb_ Qb hb;have n2_:=kb_ Qc hb;have n3_:=kb_ Qd hb;have n4_:=kb_ Qe hb;have n5_:=kb_ Ql hb;have n6_:=ks_ HB hb;clear Qa;clear Qb;clear Qc;clear Qd;clear Qe;clear Ql;clear HB;have Qa:=n0_;have Qb:=n1_;have Qc:=n2_;have Qd:=n3_;have Qe:=n4_;have Ql:=n5_;have HB:=n6_;clear n0_ n1_ n2_ n3_ n4_ n5_ n6_;(try clear hb);(try clear hb2);(try clear hk);(try clear hi))))
                                  go_ret
                                  exact ⟨by first|rfl|(simp [errW_none,errW_some] <;> rfl)|(simp [*,errW_none,errW_some] <;> rfl),by repeat (first|(with_reducible first|exact HB.out|apply below_alloc|apply pw_below_drewN|apply below_drew1|refine below_set ?_ Zi.out|refine below_set ?_ Zj.out|refine below_set ?_ ZJ.out|refine below_set ?_ ZK.out|refine below_set ?_ ZW.out|refine below_set ?_ Xa.out)|exact HB.out)⟩
                                ·rw [if_neg c76] at H
                                 exact absurd H (by simp)
                              ·rw [if_neg c75] at H
                               exact absurd H (by simp)
                            ·rw [if_neg c74] at H
                             exact absurd H (by simp)
                          ·rw [if_neg c73] at H
                           exact absurd H (by simp)
                        ·rw [if_neg c72] at H
                         exact absurd H (by simp)
                      ·rw [if_neg c71] at H
                       exact absurd H (by simp)
                    ·rw [if_neg c70] at H
                     exact absurd H (by simp)
                  ·as_aux_lemma =>
                    rw [if_neg c69] at H
                    have c69b0 : (ZU == 0) = false:=beq_eq_false_iff_ne.mpr c69
                    have c69b1 : (ZU != 0) = true:=bne_iff_ne.mpr c69
                    by_cases c101 : ZL = ZO
                    ·as_aux_lemma =>
                      rw [if_pos c101] at H
                      have c101b0 : (ZL == ZO) = true:=beq_iff_eq.mpr c101
                      have c101b1 : (ZL != ZO) = false:=bne_eq_false_iff_eq.mpr c101
                      clear c101
                      by_cases c102 : ZM = ZP
                      ·as_aux_lemma =>
                        rw [if_pos c102] at H
                        have c102b0 : (ZM == ZP) = true:=beq_iff_eq.mpr c102
                        have c102b1 : (ZM != ZP) = false:=bne_eq_false_iff_eq.mpr c102
                        clear c102
                        by_cases c103 : (Zh == Zk && (Zm == Zo && (Zq == Zr && (Zt == Zw)))) = true
                        ·as_aux_lemma =>
                          rw [if_pos c103] at H
                          have c103b0 : (Zh == Zk && (Zm == Zo && (Zq == Zr && (Zt == Zw)))) = true:=c103
                          (try (have c103b1 : decide (Zh = Zk && (Zm == Zo && (Zq == Zr && (Zt == Zw)))) = true:=by simpa using c103))
                          (try (have c103b2 : (Zh == Zk && (Zm == Zo && (Zq == Zr && (Zt == Zw)))) = true:=by simpa using c103))
                          clear c103
                          by_cases c104 : ZQ = ZS
                          ·as_aux_lemma =>
                            rw [if_pos c104] at H
                            have c104b0 : (ZQ == ZS) = true:=beq_iff_eq.mpr c104
                            have c104b1 : (ZQ != ZS) = false:=bne_eq_false_iff_eq.mpr c104
                            clear c104
                            by_cases c105 : ZR = ZT
                            ·as_aux_lemma =>
                              rw [if_pos c105] at H
                              have c105b0 : (ZR == ZT) = true:=beq_iff_eq.mpr c105
                              have c105b1 : (ZR != ZT) = false:=bne_eq_false_iff_eq.mpr c105
                              clear c105
                              by_cases c106 : (Zl == ZF && (Zp == ZG && (Zs == ZH && (ZE == ZI)))) = true
                              ·as_aux_lemma =>
                                rw [if_pos c106] at H
                                have c106b0 : (Zl == ZF && (Zp == ZG && (Zs == ZH && (ZE == ZI)))) = true:=c106
                                (try (have c106b1 : decide (Zl = ZF && (Zp == ZG && (Zs == ZH && (ZE == ZI)))) = true:=by simpa using c106))
                                (try (have c106b2 : (Zl == ZF && (Zp == ZG && (Zs == ZH && (ZE == ZI)))) = true:=by simpa using c106))
                                clear c106
                                by_cases c107 : ZV = ZX
                                ·as_aux_lemma =>
                                  rw [if_pos c107] at H
                                  have c107b0 : (ZV == ZX) = true:=beq_iff_eq.mpr c107
                                  have c107b1 : (ZV != ZX) = false:=bne_eq_false_iff_eq.mpr c107
                                  clear c107
                                  replace H:=Option.bind_eq_some_iff.mp H
                                  obtain ⟨t155,A1080,H⟩:=H
                                  replace H : (some (t155 == false)) = some r:=H
                                  have A108:=Aside0.mk A1080
                                  clear A1080
                                  obtain rfl:=Option.some.inj H
                                  have hnb109:=Zu.out
                                  have hnc109:=Zv.out
                                  have hnb110:=Zx.out
                                  have hnc110:=Zy.out
                                  have hnb111:=Zz.out
                                  have hnc111:=ZA.out
                                  have hnb112:=ZB.out
                                  have hnc112:=ZC.out
                                  have hnb113:=Zb.out
                                  have hnc113:=ZD.out
                                  obtain ⟨hcz114_0,hcz114_1,hcz114_2,hcz114_3,hcz114_4,hcz114_5,hcz114_6,hcz114_7,hcz114_8,hcz114_9,hcz114_10,hcz114_11,hcz114_12,hcz114_13,hcz114_14,hcz114_15⟩:=bc16_ (w:=wr) (g:=QD) (.int .i64 Qn) (.int .i64 Qm) (.int .i64 Qo) (.int .i64 Qp) (.int .i64 Qq) (.int .i64 Qr) (.int .i64 Qs) (.int .i64 Qt) (.int .i64 Qu) (.int .i64 Qv) (.int .i64 Qf) (.int .i64 Qg) (.int .i64 Qh) (.int .i64 Qi) (.int .i64 Qj) (.int .i64 Qk) Qa.out
                                  obtain ⟨hfz114_0,hfz114_1,hfz114_2,hfz114_3,hfz114_4,hfz114_5,hfz114_6,hfz114_7,hfz114_8,hfz114_9,hfz114_10,hfz114_11,hfz114_12,hfz114_13,hfz114_14,hfz114_15⟩:=bf16_ Qa.out
                                  go_wp2_with (first|(go_at_call 13;(with_reducible refine (vespersref07_Check.calls k3 Qn Qm Qo Qp Qq Qr Qs Qt Qu Qv Qf Qg Qh Qi Qj Qk ZU _ A68.out).mono ?_);rintro e w115 ⟨rfl,hb⟩;have n0_:=kb_ Qa hb;have n1_:=kb_ Qb hb;have n2_:=kb_ Qc hb;have n3_:=kb_ Qd hb;have n4_:=kb_ Qe hb;have n5_:=kb_ Ql hb;have n6_:=ks_ HB hb;clear Qa;clear Qb;clear Qc;clear Qd;clear Qe;clear Ql;clear HB;have Qa:=n0_;have Qb:=n1_;have Qc:=n2_;have Qd:=n3_;have Qe:=n4_;have Ql:=n5_;have HB:=n6_;clear n0_ n1_ n2_ n3_ n4_ n5_ n6_;(try clear hb);(try clear hb2);(try clear hk);(try clear hi);have hnb116:=QQ.out;have hnc116:=QP.out;have hnb117:=QT.out;have hnc117:=QU.out;have hnb118:=QX.out;have hnc118:=QY.out;have hnb119:=QG.out;have hnc119:=Zd.out;have hcz120_0 : w115.cell? ⟨Qw,0,none⟩ = some (.int .i64 Zh):=(blk_cell Qc.out 0).trans rfl;have hcz120_1 : w115.cell? ⟨Qw,1,none⟩ = some (.int .i64 Zm):=(blk_cell Qc.out 1).trans rfl;have hcz120_2 : w115.cell? ⟨Qw,2,none⟩ = some (.int .i64 Zq):=(blk_cell Qc.out 2).trans rfl;have hcz120_3 : w115.cell? ⟨Qw,3,none⟩ = some (.bool Zt):=(blk_cell Qc.out 3).trans rfl;have hfz120_0:=blk_frozen Qc.out 0;have hfz120_1:=blk_frozen Qc.out 1;have hfz120_2:=blk_frozen Qc.out 2;have hfz120_3:=blk_frozen Qc.out 3;have hnb121:=QS.out;have hnc121:=QR.out;have hnb122:=QZ.out;have hnc122:=Za.out;have hnb123:=QH.out;have hnc123:=Ze.out;have hcz124_0 : w115.cell? ⟨Qx,0,none⟩ = some (.int .i64 Zk):=(blk_cell Qd.out 0).trans rfl;have hcz124_1 : w115.cell? ⟨Qx,1,none⟩ = some (.int .i64 Zo):=(blk_cell Qd.out 1).trans rfl;have hcz124_2 : w115.cell? ⟨Qx,2,none⟩ = some (.int .i64 Zr):=(blk_cell Qd.out 2).trans rfl;have hcz124_3 : w115.cell? ⟨Qx,3,none⟩ = some (.bool Zw):=(blk_cell Qd.out 3).trans rfl;have hfz124_0:=blk_frozen Qd.out 0;have hfz124_1:=blk_frozen Qd.out 1;have hfz124_2:=blk_frozen Qd.out 2;have hfz124_3:=blk_frozen Qd.out 3;have hnb125:=QW.out;have hnc125:=QV.out;have hnb126:=QI.out;have hnc126:=Zf.out;have hcz127_0 : w115.cell? ⟨Qy,0,none⟩ = some (.int .i64 Zl):=(blk_cell Qe.out 0).trans rfl;have hcz127_1 : w115.cell? ⟨Qy,1,none⟩ = some (.int .i64 Zp):=(blk_cell Qe.out 1).trans rfl;have hcz127_2 : w115.cell? ⟨Qy,2,none⟩ = some (.int .i64 Zs):=(blk_cell Qe.out 2).trans rfl;have hcz127_3 : w115.cell? ⟨Qy,3,none⟩ = some (.bool ZE):=(blk_cell Qe.out 3).trans rfl;have hfz127_0:=blk_frozen Qe.out 0;have hfz127_1:=blk_frozen Qe.out 1;have hfz127_2:=blk_frozen Qe.out 2;have hfz127_3:=blk_frozen Qe.out 3;have hnb128:=Zc.out;have hnc128:=QF.out;have hcz129_0 : w115.cell? ⟨Qz,0,none⟩ = some (.int .i64 ZF):=(blk_cell Ql.out 0).trans rfl;have hcz129_1 : w115.cell? ⟨Qz,1,none⟩ = some (.int .i64 ZG):=(blk_cell Ql.out 1).trans rfl;have hcz129_2 : w115.cell? ⟨Qz,2,none⟩ = some (.int .i64 ZH):=(blk_cell Ql.out 2).trans rfl;have hcz129_3 : w115.cell? ⟨Qz,3,none⟩ = some (.bool ZI):=(blk_cell Ql.out 3).trans rfl;have hfz129_0:=blk_frozen Ql.out 0;have hfz129_1:=blk_frozen Ql.out 1;have hfz129_2:=blk_frozen Ql.out 2;have hfz129_3:=blk_frozen Ql.out 3;obtain ⟨hcz130_0,hcz130_1,hcz130_2,hcz130_3,hcz130_4,hcz130_5,hcz130_6,hcz130_7,hcz130_8,hcz130_9,hcz130_10,hcz130_11,hcz130_12,hcz130_13,hcz130_14,hcz130_15⟩:=bc16_ (w:=w115) (g:=QD) (.int .i64 Qn) (.int .i64 Qm) (.int .i64 Qo) (.int .i64 Qp) (.int .i64 Qq) (.int .i64 Qr) (.int .i64 Qs) (.int .i64 Qt) (.int .i64 Qu) (.int .i64 Qv) (.int .i64 Qf) (.int .i64 Qg) (.int .i64 Qh) (.int .i64 Qi) (.int .i64 Qj) (.int .i64 Qk) Qa.out;obtain ⟨hfz130_0,hfz130_1,hfz130_2,hfz130_3,hfz130_4,hfz130_5,hfz130_6,hfz130_7,hfz130_8,hfz130_9,hfz130_10,hfz130_11,hfz130_12,hfz130_13,hfz130_14,hfz130_15⟩:=bf16_ Qa.out)|(go_at_call 14;(with_reducible refine (resync_Enough.calls Qn Qm Qo Qp Qq Qr Qs Qt Qu Qv Qf Qg Qh Qi Qj Qk a4 t155 _ A108.out).mono ?_);rintro e w131 ⟨rfl,hb⟩;have n0_:=kb_ Qa hb;have n1_:=kb_ Qb hb;have n2_:=kb_ Qc hb;have n3_:=kb_ Qd hb;have n4_:=kb_ Qe hb;have n5_:=kb_ Ql hb;have n6_:=ks_ HB hb;clear Qa;clear Qb;clear Qc;clear Qd;clear Qe;clear Ql;clear HB;have Qa:=n0_;have Qb:=n1_;have Qc:=n2_;have Qd:=n3_;have Qe:=n4_;have Ql:=n5_;have HB:=n6_;clear n0_ n1_ n2_ n3_ n4_ n5_ n6_;(try clear hb);(try clear hb2);(try clear hk);(try clear hi)))
                                  repeat (go_quiet (first|(go_at_call 13;(with_reducible refine (vespersref07_Check.calls k3 Qn Qm Qo Qp Qq Qr Qs Qt Qu Qv Qf Qg Qh Qi Qj Qk ZU _ A68.out).mono ?_);rintro e w115 ⟨rfl,hb⟩;have n0_:=kb_ Qa hb;have n1_:=kb_ Qb hb;have n2_:=kb_ Qc hb;have n3_:=kb_ Qd hb;have n4_:=kb_ Qe hb;have n5_:=kb_ Ql hb;have n6_:=ks_ HB hb;clear Qa;clear Qb;clear Qc;clear Qd;clear Qe;clear Ql;clear HB;have Qa:=n0_;have Qb:=n1_;have Qc:=n2_;have Qd:=n3_;have Qe:=n4_;have Ql:=n5_;have HB:=n6_;clear n0_ n1_ n2_ n3_ n4_ n5_ n6_;(try clear hb);(try clear hb2);(try clear hk);(try clear hi);have hnb116:=QQ.out;have hnc116:=QP.out;have hnb117:=QT.out;have hnc117:=QU.out;have hnb118:=QX.out;have hnc118:=QY.out;have hnb119:=QG.out;have hnc119:=Zd.out;have hcz120_0 : w115.cell? ⟨Qw,0,none⟩ = some (.int .i64 Zh):=(blk_cell Qc.out 0).trans rfl;have hcz120_1 : w115.cell? ⟨Qw,1,none⟩ = some (.int .i64 Zm):=(blk_cell Qc.out 1).trans rfl;have hcz120_2 : w115.cell? ⟨Qw,2,none⟩ = some (.int .i64 Zq):=(blk_cell Qc.out 2).trans rfl;have hcz120_3 : w115.cell? ⟨Qw,3,none⟩ = some (.bool Zt):=(blk_cell Qc.out 3).trans rfl;have hfz120_0:=blk_frozen Qc.out 0;have hfz120_1:=blk_frozen Qc.out 1;have hfz120_2:=blk_frozen Qc.out 2;have hfz120_3:=blk_frozen Qc.out 3;have hnb121:=QS.out;have hnc121:=QR.out;have hnb122:=QZ.out;have hnc122:=Za.out;have hnb123:=QH.out;have hnc123:=Ze.out;have hcz124_0 : w115.cell? ⟨Qx,0,none⟩ = some (.int .i64 Zk):=(blk_cell Qd.out 0).trans rfl;have hcz124_1 : w115.cell? ⟨Qx,1,none⟩ = some (.int .i64 Zo):=(blk_cell Qd.out 1).trans rfl;have hcz124_2 : w115.cell? ⟨Qx,2,none⟩ = some (.int .i64 Zr):=(blk_cell Qd.out 2).trans rfl;have hcz124_3 : w115.cell? ⟨Qx,3,none⟩ = some (.bool Zw):=(blk_cell Qd.out 3).trans rfl;have hfz124_0:=blk_frozen Qd.out 0;have hfz124_1:=blk_frozen Qd.out 1;have hfz124_2:=blk_frozen Qd.out 2;have hfz124_3:=blk_frozen Qd.out 3;have hnb125:=QW.out;have hnc125:=QV.out;have hnb126:=QI.out;have hnc126:=Zf.out;have hcz127_0 : w115.cell? ⟨Qy,0,none⟩ = some (.int .i64 Zl):=(blk_cell Qe.out 0).trans rfl;have hcz127_1 : w115.cell? ⟨Qy,1,none⟩ = some (.int .i64 Zp):=(blk_cell Qe.out 1).trans rfl;have hcz127_2 : w115.cell? ⟨Qy,2,none⟩ = some (.int .i64 Zs):=(blk_cell Qe.out 2).trans rfl;have hcz127_3 : w115.cell? ⟨Qy,3,none⟩ = some (.bool ZE):=(blk_cell Qe.out 3).trans rfl;have hfz127_0:=blk_frozen Qe.out 0;have hfz127_1:=blk_frozen Qe.out 1;have hfz127_2:=blk_frozen Qe.out 2;have hfz127_3:=blk_frozen Qe.out 3;have hnb128:=Zc.out;have hnc128:=QF.out;have hcz129_0 : w115.cell? ⟨Qz,0,none⟩ = some (.int .i64 ZF):=(blk_cell Ql.out 0).trans rfl;have hcz129_1 : w115.cell? ⟨Qz,1,none⟩ = some (.int .i64 ZG):=(blk_cell Ql.out 1).trans rfl;have hcz129_2 : w115.cell? ⟨Qz,2,none⟩ = some (.int .i64 ZH):=(blk_cell Ql.out 2).trans rfl;have hcz129_3 : w115.cell? ⟨Qz,3,none⟩ = some (.bool ZI):=(blk_cell Ql.out 3).trans rfl;have hfz129_0:=blk_frozen Ql.out 0;have hfz129_1:=blk_frozen Ql.out 1;have hfz129_2:=blk_frozen Ql.out 2;have hfz129_3:=blk_frozen Ql.out 3;obtain ⟨hcz130_0,hcz130_1,hcz130_2,hcz130_3,hcz130_4,hcz130_5,hcz130_6,hcz130_7,hcz130_8,hcz130_9,hcz130_10,hcz130_11,hcz130_12,hcz130_13,hcz130_14,hcz130_15⟩:=bc16_ (w:=w115) (g:=QD) (.int .i64 Qn) (.int .i64 Qm) (.int .i64 Qo) (.int .i64 Qp) (.int .i64 Qq) (.int .i64 Qr) (.int .i64 Qs) (.int .i64 Qt) (.int .i64 Qu) (.int .i64 Qv) (.int .i64 Qf) (.int .i64 Qg) (.int .i64 Qh) (.int .i64 Qi) (.int .i64 Qj) (.int .i64 Qk) Qa.out;obtain ⟨hfz130_0,hfz130_1,hfz130_2,hfz130_3,hfz130_4,hfz130_5,hfz130_6,hfz130_7,hfz130_8,hfz130_9,hfz130_10,hfz130_11,hfz130_12,hfz130_13,hfz130_14,hfz130_15⟩:=bf16_ Qa.out)|(go_at_call 14;(with_reducible refine (resync_Enough.calls Qn Qm Qo Qp Qq Qr Qs Qt Qu Qv Qf Qg Qh Qi Qj Qk a4 t155 _ A108.out).mono ?_);rintro e w131 ⟨rfl,hb⟩;have n0_:=kb_ Qa hb;have n1_:=kb_ Qb hb;have n2_:=kb_ Qc hb;have n3_:=kb_ Qd hb;have n4_:=kb_ Qe hb;have n5_:=kb_ Ql hb;have n6_:=ks_ HB hb;clear Qa;clear Qb;clear Qc;clear Qd;clear Qe;clear Ql;clear HB;have Qa:=n0_;have Qb:=n1_;have Qc:=n2_;have Qd:=n3_;have Qe:=n4_;have Ql:=n5_;have HB:=n6_;clear n0_ n1_ n2_ n3_ n4_ n5_ n6_;(try clear hb);(try clear hb2);(try clear hk);(try clear hi)));try go_wp2_with (first|(go_at_call 13;(with_reducible refine (vespersref07_Check.calls k3 Qn Qm Qo Qp Qq Qr Qs Qt Qu Qv Qf Qg Qh Qi Qj Qk ZU _ A68.out).mono ?_);rintro e w115 ⟨rfl,hb⟩;have n0_:=kb_ Qa hb;have n1_:=kb_ Qb hb;have n2_:=kb_ Qc hb;have n3_:=kb_ Qd hb;have n4_:=kb_ Qe hb;have n5_:=kb_ Ql hb;have n6_:=ks_ HB hb;clear Qa;clear Qb;clear Qc;clear Qd;clear Qe;clear Ql;clear HB;have Qa:=n0_;have Qb:=n1_;have Qc:=n2_;have Qd:=n3_;have Qe:=n4_;have Ql:=n5_;have HB:=n6_;clear n0_ n1_ n2_ n3_ n4_ n5_ n6_;(try clear hb);(try clear hb2);(try clear hk);(try clear hi);have hnb116:=QQ.out;have hnc116:=QP.out;have hnb117:=QT.out;have hnc117:=QU.out;have hnb118:=QX.out;have hnc118:=QY.out;have hnb119:=QG.out;have hnc119:=Zd.out;have hcz120_0 : w115.cell? ⟨Qw,0,none⟩ = some (.int .i64 Zh):=(blk_cell Qc.out 0).trans rfl;have hcz120_1 : w115.cell? ⟨Qw,1,none⟩ = some (.int .i64 Zm):=(blk_cell Qc.out 1).trans rfl;have hcz120_2 : w115.cell? ⟨Qw,2,none⟩ = some (.int .i64 Zq):=(blk_cell Qc.out 2).trans rfl;have hcz120_3 : w115.cell? ⟨Qw,3,none⟩ = some (.bool Zt):=(blk_cell Qc.out 3).trans rfl;have hfz120_0:=blk_frozen Qc.out 0;have hfz120_1:=blk_frozen Qc.out 1;have hfz120_2:=blk_frozen Qc.out 2;have hfz120_3:=blk_frozen Qc.out 3;have hnb121:=QS.out;have hnc121:=QR.out;have hnb122:=QZ.out;have hnc122:=Za.out;have hnb123:=QH.out;have hnc123:=Ze.out;have hcz124_0 : w115.cell? ⟨Qx,0,none⟩ = some (.int .i64 Zk):=(blk_cell Qd.out 0).trans rfl;have hcz124_1 : w115.cell? ⟨Qx,1,none⟩ = some (.int .i64 Zo):=(blk_cell Qd.out 1).trans rfl;have hcz124_2 : w115.cell? ⟨Qx,2,none⟩ = some (.int .i64 Zr):=(blk_cell Qd.out 2).trans rfl;have hcz124_3 : w115.cell? ⟨Qx,3,none⟩ = some (.bool Zw):=(blk_cell Qd.out 3).trans rfl;have hfz124_0:=blk_frozen Qd.out 0;have hfz124_1:=blk_frozen Qd.out 1;have hfz124_2:=blk_frozen Qd.out 2;have hfz124_3:=blk_frozen Qd.out 3;have hnb125:=QW.out;have hnc125:=QV.out;have hnb126:=QI.out;have hnc126:=Zf.out;have hcz127_0 : w115.cell? ⟨Qy,0,none⟩ = some (.int .i64 Zl):=(blk_cell Qe.out 0).trans rfl;have hcz127_1 : w115.cell? ⟨Qy,1,none⟩ = some (.int .i64 Zp):=(blk_cell Qe.out 1).trans rfl;have hcz127_2 : w115.cell? ⟨Qy,2,none⟩ = some (.int .i64 Zs):=(blk_cell Qe.out 2).trans rfl;have hcz127_3 : w115.cell? ⟨Qy,3,none⟩ = some (.bool ZE):=(blk_cell Qe.out 3).trans rfl;have hfz127_0:=blk_frozen Qe.out 0;have hfz127_1:=blk_frozen Qe.out 1;have hfz127_2:=blk_frozen Qe.out 2;have hfz127_3:=blk_frozen Qe.out 3;have hnb128:=Zc.out;have hnc128:=QF.out;have hcz129_0 : w115.cell? ⟨Qz,0,none⟩ = some (.int .i64 ZF):=(blk_cell Ql.out 0).trans rfl;have hcz129_1 : w115.cell? ⟨Qz,1,none⟩ = some (.int .i64 ZG):=(blk_cell Ql.out 1).trans rfl;have hcz129_2 : w115.cell? ⟨Qz,2,none⟩ = some (.int .i64 ZH):=(blk_cell Ql.out 2).trans rfl;have hcz129_3 : w115.cell? ⟨Qz,3,none⟩ = some (.bool ZI):=(blk_cell Ql.out 3).trans rfl;have hfz129_0:=blk_frozen Ql.out 0;have hfz129_1:=blk_frozen Ql.out 1;have hfz129_2:=blk_frozen Ql.out 2;have hfz129_3:=blk_frozen Ql.out 3;obtain ⟨hcz130_0,hcz130_1,hcz130_2,hcz130_3,hcz130_4,hcz130_5,hcz130_6,hcz130_7,hcz130_8,hcz130_9,hcz130_10,hcz130_11,hcz130_12,hcz130_13,hcz130_14,hcz130_15⟩:=bc16_ (w:=w115) (g:=QD) (.int .i64 Qn) (.int .i64 Qm) (.int .i64 Qo) (.int .i64 Qp) (.int .i64 Qq) (.int .i64 Qr) (.int .i64 Qs) (.int .i64 Qt) (.int .i64 Qu) (.int .i64 Qv) (.int .i64 Qf) (.int .i64 Qg) (.int .i64 Qh) (.int .i64 Qi) (.int .i64 Qj) (.int .i64 Qk) Qa.out;obtain ⟨hfz130_0,hfz130_1,hfz130_2,hfz130_3,hfz130_4,hfz130_5,hfz130_6,hfz130_7,hfz130_8,hfz130_9,hfz130_10,hfz130_11,hfz130_12,hfz130_13,hfz130_14,hfz130_15⟩:=bf16_ Qa.out)|(go_at_call 14;(with_reducible refine (resync_Enough.calls Qn Qm Qo Qp Qq Qr Qs Qt Qu Qv Qf Qg Qh Qi Qj Qk a4 t155 _ A108.out).mono ?_);rintro e w131 ⟨rfl,hb⟩;have n0_:=kb_ Qa hb;have n1_:=kb_ Qb hb;have n2_:=kb_ Qc hb;have n3_:=kb_ Qd hb;have n4_:=kb_ Qe hb;have n5_:=kb_ Ql hb;have n6_:=ks_ HB hb;clear Qa;clear Qb;clear Qc;clear Qd;clear Qe;clear Ql;clear HB;have Qa:=n0_;have Qb:=n1_;have Qc:=n2_;have Qd:=n3_;have Qe:=n4_;have Ql:=n5_;have HB:=n6_;clear n0_ n1_ n2_ n3_ n4_ n5_ n6_;(try clear hb);(try clear hb2);(try clear hk);(try clear hi))))
                                  go_ret
                                  exact ⟨by first|rfl|(simp [errW_none,errW_some] <;> rfl)|(simp [*,errW_none,errW_some] <;> rfl),by repeat (first|(with_reducible first|exact HB.out|apply below_alloc|apply pw_below_drewN|apply below_drew1|refine below_set ?_ Zi.out|refine below_set ?_ Zj.out|refine below_set ?_ ZJ.out|refine below_set ?_ ZK.out|refine below_set ?_ ZW.out|refine below_set ?_ Xa.out)|exact HB.out)⟩
                                ·rw [if_neg c107] at H
                                 exact absurd H (by simp)
                              ·rw [if_neg c106] at H
                               exact absurd H (by simp)
                            ·rw [if_neg c105] at H
                             exact absurd H (by simp)
                          ·rw [if_neg c104] at H
                           exact absurd H (by simp)
                        ·rw [if_neg c103] at H
                         exact absurd H (by simp)
                      ·rw [if_neg c102] at H
                       exact absurd H (by simp)
                    ·rw [if_neg c101] at H
                     exact absurd H (by simp)
         ·rw [if_neg c15] at H
          exact absurd H (by simp)

/-- THE ONE PURE STATEMENT of vesperslaw15_ResyncTurns. -/
def vesperslaw15_ResyncTurns.Pure : Prop:=∀ (Qn : Int) (Qm : Int) (Qo : Int) (Qp : Int) (Qq : Int) (Qr : Int) (Qs : Int) (Qt : Int) (Qu : Int) (Qv : Int) (Qf : Int) (Qg : Int) (Qh : Int) (Qi : Int) (Qj : Int) (Qk : Int) (QL : Int) (QM : Int) (QN : Int) (QO : Bool) (l2 : List Int) (l3 : List (List Int)) (a4 : Int),(Lit.int .i64 Qn).wf = true→(Lit.int .i64 Qm).wf = true→(Lit.int .i64 Qo).wf = true→(Lit.int .i64 Qp).wf = true→(Lit.int .i64 Qq).wf = true→(Lit.int .i64 Qr).wf = true→(Lit.int .i64 Qs).wf = true→(Lit.int .i64 Qt).wf = true→(Lit.int .i64 Qu).wf = true→(Lit.int .i64 Qv).wf = true→(Lit.int .i64 Qf).wf = true→(Lit.int .i64 Qg).wf = true→(Lit.int .i64 Qh).wf = true→(Lit.int .i64 Qi).wf = true→(Lit.int .i64 Qj).wf = true→(Lit.int .i64 Qk).wf = true→(Lit.int .i64 QL).wf = true→(Lit.int .i64 QM).wf = true→(Lit.int .i64 QN).wf = true→l2.length ≤ maxLen→l2.length * 8 ≤ 140737488351232→(∀ x ∈ l2,(Lit.int .i64 x).wf = true)→l3.length ≤ maxLen→l3.length * 24 ≤ 140737488351232→(∀ x ∈ l3,x.length ≤ maxLen∧x.length * 8 ≤ 140737488351232∧∀ y ∈ x,(Lit.int .i64 y).wf = true)→(Lit.int .i64 a4).wf = true→∃ k,vesperslaw15_ResyncTurns.f k Qn Qm Qo Qp Qq Qr Qs Qt Qu Qv Qf Qg Qh Qi Qj Qk QL QM QN QO l2 l3 a4 = some true

end Go.Proofs.Ytnmephdamgofnaa.PR
