/- Calls that the closed laws make: what they are given, and what they return. -/
import Derived.Test.YtkijagaocalkhaaGreatDoorE7
set_option maxRecDepth 4000

/-! Calls that the closed laws make: what they are given, and what they return. -/
namespace Go.Ev

noncomputable def me0 : Memo := ⟨(.cons (.agg 41 (.cons (.sp 39 (.cons (.i 3 1) (.cons (.i 3 1) (.cons (.i 3 4) (.cons (.i 3 1) (.cons (.i 7 8) (.cons (.i 7 8) (.cons (.bs 33 0) .nil)))))))) (.cons (.sl (.i (.i (.o (.i (.i .h))))) 0 1 1) (.cons (.sl (.o (.i (.i (.o (.o (.o .h)))))) 0 3 3) .nil)))) (.cons (.i 3 2) .nil)),
    ⟨(.o (.i (.i (.o (.o (.o .h)))))), 65, 5, 15, (.cons (.sp 15 (.cons (.sp 5 (.cons (.i 4 1) (.cons (.i 3 1) (.cons (.i 3 0) (.cons .ns (.cons (.i 3 0) .nil)))))) (.cons (.sp 5 (.cons (.i 4 1) (.cons (.i 3 1) (.cons (.i 3 0) (.cons .ns (.cons (.i 3 0) .nil)))))) (.cons (.sp 5 (.cons (.i 4 1) (.cons (.i 3 0) (.cons (.i 3 0) (.cons .ns (.cons (.i 3 0) .nil)))))) .nil)))) .nil)⟩ ::
    ⟨(.i (.o (.o (.i (.i .h))))), 5, 1, 32, (.cons (.bs 32 0) .nil)⟩ ::
    ⟨(.o (.i (.o (.i (.i .h))))), 53, 3, 3, (.cons (.sp 3 (.cons (.i 4 2) (.cons (.i 3 0) (.cons (.sl (.i (.o (.o (.i (.i .h))))) 0 32 32) .nil)))) .nil)⟩ ::
    ⟨(.i (.i (.o (.i (.i .h))))), 54, 1, 1, (.cons (.sl (.o (.i (.o (.i (.i .h))))) 0 1 1) .nil)⟩ ::
    memG,
    (.o (.o (.o (.i (.o (.o .h)))))),
    (.tup (.cons (.agg 2 (.cons (.i 3 0) (.cons (.i 3 0) .nil))) (.cons (.i 3 0) .nil)))⟩
theorem me0_closed : ClosedV me0.v := fun _ _ _ _ => ⟨rfl, fun h => h⟩
noncomputable def me1 : Memo := ⟨(.cons (.agg 41 (.cons (.sp 39 (.cons (.i 3 1) (.cons (.i 3 1) (.cons (.i 3 4) (.cons (.i 3 1) (.cons (.i 7 8) (.cons (.i 7 8) (.cons (.bs 33 0) .nil)))))))) (.cons (.sl (.i (.i (.o (.i (.i .h))))) 0 1 1) (.cons (.sl (.o (.i (.i (.o (.o (.o .h)))))) 0 3 3) .nil)))) (.cons (.i 3 3) .nil)),
    ⟨(.o (.i (.i (.o (.o (.o .h)))))), 65, 5, 15, (.cons (.sp 15 (.cons (.sp 5 (.cons (.i 4 1) (.cons (.i 3 1) (.cons (.i 3 0) (.cons .ns (.cons (.i 3 0) .nil)))))) (.cons (.sp 5 (.cons (.i 4 1) (.cons (.i 3 1) (.cons (.i 3 0) (.cons .ns (.cons (.i 3 0) .nil)))))) (.cons (.sp 5 (.cons (.i 4 1) (.cons (.i 3 0) (.cons (.i 3 0) (.cons .ns (.cons (.i 3 0) .nil)))))) .nil)))) .nil)⟩ ::
    ⟨(.i (.o (.o (.i (.i .h))))), 5, 1, 32, (.cons (.bs 32 0) .nil)⟩ ::
    ⟨(.o (.i (.o (.i (.i .h))))), 53, 3, 3, (.cons (.sp 3 (.cons (.i 4 2) (.cons (.i 3 0) (.cons (.sl (.i (.o (.o (.i (.i .h))))) 0 32 32) .nil)))) .nil)⟩ ::
    ⟨(.i (.i (.o (.i (.i .h))))), 54, 1, 1, (.cons (.sl (.o (.i (.o (.i (.i .h))))) 0 1 1) .nil)⟩ ::
    memG,
    (.i (.o (.o (.i (.o (.o .h)))))),
    (.tup (.cons (.agg 2 (.cons (.i 3 0) (.cons (.i 3 0) .nil))) (.cons (.i 3 11) .nil)))⟩
theorem me1_closed : ClosedV me1.v := fun _ _ _ _ => ⟨rfl, fun h => h⟩
noncomputable def me2 : Memo := ⟨(.cons (.agg 41 (.cons (.sp 39 (.cons (.i 3 1) (.cons (.i 3 1) (.cons (.i 3 4) (.cons (.i 3 1) (.cons (.i 7 8) (.cons (.i 7 8) (.cons (.bs 33 0) .nil)))))))) (.cons (.sl (.i (.o (.i (.i (.i .h))))) 0 1 1) (.cons (.sl (.i (.i (.o (.i (.i (.o .h)))))) 0 8 8) .nil)))) .nil),
    ⟨(.i (.i (.o (.i (.i (.o .h)))))), 65, 5, 40, (.cons (.sp 40 (.cons (.sp 5 (.cons (.i 4 1) (.cons (.i 3 0) (.cons (.i 3 0) (.cons .ns (.cons (.i 3 0) .nil)))))) (.cons (.sp 5 (.cons (.i 4 1) (.cons (.i 3 0) (.cons (.i 3 0) (.cons .ns (.cons (.i 3 0) .nil)))))) (.cons (.sp 5 (.cons (.i 4 1) (.cons (.i 3 0) (.cons (.i 3 0) (.cons .ns (.cons (.i 3 0) .nil)))))) (.cons (.sp 5 (.cons (.i 4 1) (.cons (.i 3 0) (.cons (.i 3 0) (.cons .ns (.cons (.i 3 0) .nil)))))) (.cons (.sp 5 (.cons (.i 4 1) (.cons (.i 3 0) (.cons (.i 3 0) (.cons .ns (.cons (.i 3 0) .nil)))))) (.cons (.sp 5 (.cons (.i 4 1) (.cons (.i 3 0) (.cons (.i 3 0) (.cons .ns (.cons (.i 3 0) .nil)))))) (.cons (.sp 5 (.cons (.i 4 1) (.cons (.i 3 0) (.cons (.i 3 0) (.cons .ns (.cons (.i 3 0) .nil)))))) (.cons (.sp 5 (.cons (.i 4 1) (.cons (.i 3 0) (.cons (.i 3 0) (.cons .ns (.cons (.i 3 0) .nil)))))) .nil))))))))) .nil)⟩ ::
    ⟨(.o (.o (.i (.i (.i .h))))), 53, 3, 3, (.cons (.sp 3 (.cons (.i 4 3) (.cons (.i 3 0) (.cons .ns .nil)))) .nil)⟩ ::
    ⟨(.i (.o (.i (.i (.i .h))))), 54, 1, 1, (.cons (.sl (.o (.o (.i (.i (.i .h))))) 0 1 1) .nil)⟩ ::
    memG,
    (.o (.o (.i (.i (.i (.o .h)))))),
    (.tup (.cons (.i 3 8) (.cons (.i 3 0) .nil)))⟩
theorem me2_closed : ClosedV me2.v := fun _ _ _ _ => ⟨rfl, fun h => h⟩
noncomputable def me3 : Memo := ⟨(.cons (.agg 41 (.cons (.sp 39 (.cons (.i 3 1) (.cons (.i 3 1) (.cons (.i 3 4) (.cons (.i 3 1) (.cons (.i 7 8) (.cons (.i 7 8) (.cons (.bs 33 0) .nil)))))))) (.cons (.sl (.i (.o (.i (.i (.i .h))))) 0 1 1) (.cons (.sl (.i (.i (.i (.i (.o (.i .h)))))) 0 9 9) .nil)))) .nil),
    ⟨(.i (.i (.i (.i (.o (.i .h)))))), 65, 5, 45, (.cons (.sp 45 (.cons (.sp 5 (.cons (.i 4 1) (.cons (.i 3 0) (.cons (.i 3 0) (.cons .ns (.cons (.i 3 0) .nil)))))) (.cons (.sp 5 (.cons (.i 4 1) (.cons (.i 3 0) (.cons (.i 3 0) (.cons .ns (.cons (.i 3 0) .nil)))))) (.cons (.sp 5 (.cons (.i 4 1) (.cons (.i 3 0) (.cons (.i 3 0) (.cons .ns (.cons (.i 3 0) .nil)))))) (.cons (.sp 5 (.cons (.i 4 1) (.cons (.i 3 0) (.cons (.i 3 0) (.cons .ns (.cons (.i 3 0) .nil)))))) (.cons (.sp 5 (.cons (.i 4 1) (.cons (.i 3 0) (.cons (.i 3 0) (.cons .ns (.cons (.i 3 0) .nil)))))) (.cons (.sp 5 (.cons (.i 4 1) (.cons (.i 3 0) (.cons (.i 3 0) (.cons .ns (.cons (.i 3 0) .nil)))))) (.cons (.sp 5 (.cons (.i 4 1) (.cons (.i 3 0) (.cons (.i 3 0) (.cons .ns (.cons (.i 3 0) .nil)))))) (.cons (.sp 5 (.cons (.i 4 1) (.cons (.i 3 0) (.cons (.i 3 0) (.cons .ns (.cons (.i 3 0) .nil)))))) (.cons (.sp 5 (.cons (.i 4 1) (.cons (.i 3 0) (.cons (.i 3 0) (.cons .ns (.cons (.i 3 0) .nil)))))) .nil)))))))))) .nil)⟩ ::
    ⟨(.o (.o (.i (.i (.i .h))))), 53, 3, 3, (.cons (.sp 3 (.cons (.i 4 3) (.cons (.i 3 0) (.cons .ns .nil)))) .nil)⟩ ::
    ⟨(.i (.o (.i (.i (.i .h))))), 54, 1, 1, (.cons (.sl (.o (.o (.i (.i (.i .h))))) 0 1 1) .nil)⟩ ::
    memG,
    (.o (.o (.o (.o (.i (.i .h)))))),
    (.tup (.cons (.i 3 8) (.cons (.i 3 0) .nil)))⟩
theorem me3_closed : ClosedV me3.v := fun _ _ _ _ => ⟨rfl, fun h => h⟩
noncomputable def me4 : Memo := ⟨(.cons (.agg 41 (.cons (.sp 39 (.cons (.i 3 1) (.cons (.i 3 1) (.cons (.i 3 5) (.cons (.i 3 2) (.cons (.i 7 8) (.cons (.i 7 8) (.cons (.bs 33 0) .nil)))))))) (.cons (.sl (.o (.o (.o (.i (.i .h))))) 0 2 2) (.cons (.sl (.o (.i (.i (.i (.o (.o .h)))))) 0 10 10) .nil)))) (.cons (.i 3 8) .nil)),
    ⟨(.o (.i (.i (.i (.o (.o .h)))))), 65, 5, 50, (.cons (.sp 50 (.cons (.sp 5 (.cons (.i 4 1) (.cons (.i 3 0) (.cons (.i 3 0) (.cons .ns (.cons (.i 3 0) .nil)))))) (.cons (.sp 5 (.cons (.i 4 1) (.cons (.i 3 0) (.cons (.i 3 0) (.cons .ns (.cons (.i 3 0) .nil)))))) (.cons (.sp 5 (.cons (.i 4 1) (.cons (.i 3 0) (.cons (.i 3 0) (.cons .ns (.cons (.i 3 0) .nil)))))) (.cons (.sp 5 (.cons (.i 4 1) (.cons (.i 3 0) (.cons (.i 3 0) (.cons .ns (.cons (.i 3 0) .nil)))))) (.cons (.sp 5 (.cons (.i 4 1) (.cons (.i 3 0) (.cons (.i 3 0) (.cons .ns (.cons (.i 3 0) .nil)))))) (.cons (.sp 5 (.cons (.i 4 1) (.cons (.i 3 0) (.cons (.i 3 0) (.cons .ns (.cons (.i 3 0) .nil)))))) (.cons (.sp 5 (.cons (.i 4 1) (.cons (.i 3 0) (.cons (.i 3 0) (.cons .ns (.cons (.i 3 0) .nil)))))) (.cons (.sp 5 (.cons (.i 4 1) (.cons (.i 3 0) (.cons (.i 3 0) (.cons .ns (.cons (.i 3 0) .nil)))))) (.cons (.sp 5 (.cons (.i 4 1) (.cons (.i 3 1) (.cons (.i 3 0) (.cons .ns (.cons (.i 3 0) .nil)))))) (.cons (.sp 5 (.cons (.i 4 1) (.cons (.i 3 1) (.cons (.i 3 0) (.cons .ns (.cons (.i 3 0) .nil)))))) .nil))))))))))) .nil)⟩ ::
    ⟨(.i (.i (.i (.o (.i .h))))), 53, 3, 3, (.cons (.sp 3 (.cons (.i 4 3) (.cons (.i 3 0) (.cons .ns .nil)))) .nil)⟩ ::
    ⟨(.o (.i (.i (.o (.i .h))))), 53, 3, 3, (.cons (.sp 3 (.cons (.i 4 3) (.cons (.i 3 0) (.cons .ns .nil)))) .nil)⟩ ::
    ⟨(.o (.o (.o (.i (.i .h))))), 54, 1, 2, (.cons (.sl (.o (.i (.i (.o (.i .h))))) 0 1 1) (.cons (.sl (.i (.i (.i (.o (.i .h))))) 0 1 1) .nil))⟩ ::
    memG,
    (.i (.i (.i (.i (.o (.o .h)))))),
    (.tup (.cons (.agg 2 (.cons (.i 3 0) (.cons (.i 3 1) .nil))) (.cons (.i 3 0) .nil)))⟩
theorem me4_closed : ClosedV me4.v := fun _ _ _ _ => ⟨rfl, fun h => h⟩
noncomputable def me5 : Memo := ⟨(.cons (.agg 41 (.cons (.sp 39 (.cons (.i 3 1) (.cons (.i 3 1) (.cons (.i 3 5) (.cons (.i 3 2) (.cons (.i 7 8) (.cons (.i 7 8) (.cons (.bs 33 0) .nil)))))))) (.cons (.sl (.o (.o (.o (.i (.i .h))))) 0 2 2) (.cons (.sl (.o (.i (.i (.i (.o (.o .h)))))) 0 10 10) .nil)))) (.cons (.i 3 9) .nil)),
    ⟨(.o (.i (.i (.i (.o (.o .h)))))), 65, 5, 50, (.cons (.sp 50 (.cons (.sp 5 (.cons (.i 4 1) (.cons (.i 3 0) (.cons (.i 3 0) (.cons .ns (.cons (.i 3 0) .nil)))))) (.cons (.sp 5 (.cons (.i 4 1) (.cons (.i 3 0) (.cons (.i 3 0) (.cons .ns (.cons (.i 3 0) .nil)))))) (.cons (.sp 5 (.cons (.i 4 1) (.cons (.i 3 0) (.cons (.i 3 0) (.cons .ns (.cons (.i 3 0) .nil)))))) (.cons (.sp 5 (.cons (.i 4 1) (.cons (.i 3 0) (.cons (.i 3 0) (.cons .ns (.cons (.i 3 0) .nil)))))) (.cons (.sp 5 (.cons (.i 4 1) (.cons (.i 3 0) (.cons (.i 3 0) (.cons .ns (.cons (.i 3 0) .nil)))))) (.cons (.sp 5 (.cons (.i 4 1) (.cons (.i 3 0) (.cons (.i 3 0) (.cons .ns (.cons (.i 3 0) .nil)))))) (.cons (.sp 5 (.cons (.i 4 1) (.cons (.i 3 0) (.cons (.i 3 0) (.cons .ns (.cons (.i 3 0) .nil)))))) (.cons (.sp 5 (.cons (.i 4 1) (.cons (.i 3 0) (.cons (.i 3 0) (.cons .ns (.cons (.i 3 0) .nil)))))) (.cons (.sp 5 (.cons (.i 4 1) (.cons (.i 3 1) (.cons (.i 3 0) (.cons .ns (.cons (.i 3 0) .nil)))))) (.cons (.sp 5 (.cons (.i 4 1) (.cons (.i 3 1) (.cons (.i 3 0) (.cons .ns (.cons (.i 3 0) .nil)))))) .nil))))))))))) .nil)⟩ ::
    ⟨(.i (.i (.i (.o (.i .h))))), 53, 3, 3, (.cons (.sp 3 (.cons (.i 4 3) (.cons (.i 3 0) (.cons .ns .nil)))) .nil)⟩ ::
    ⟨(.o (.i (.i (.o (.i .h))))), 53, 3, 3, (.cons (.sp 3 (.cons (.i 4 3) (.cons (.i 3 0) (.cons .ns .nil)))) .nil)⟩ ::
    ⟨(.o (.o (.o (.i (.i .h))))), 54, 1, 2, (.cons (.sl (.o (.i (.i (.o (.i .h))))) 0 1 1) (.cons (.sl (.i (.i (.i (.o (.i .h))))) 0 1 1) .nil))⟩ ::
    memG,
    (.o (.o (.o (.o (.i (.o .h)))))),
    (.tup (.cons (.agg 2 (.cons (.i 3 0) (.cons (.i 3 0) .nil))) (.cons (.i 3 11) .nil)))⟩
theorem me5_closed : ClosedV me5.v := fun _ _ _ _ => ⟨rfl, fun h => h⟩
noncomputable def me6 : Memo := ⟨(.cons (.agg 41 (.cons (.sp 39 (.cons (.i 3 1) (.cons (.i 3 1) (.cons (.i 3 5) (.cons (.i 3 2) (.cons (.i 7 8) (.cons (.i 7 8) (.cons (.bs 33 0) .nil)))))))) (.cons (.sl (.o (.o (.o (.i (.i .h))))) 0 2 2) (.cons (.sl (.o (.i (.i (.i (.o (.o .h)))))) 0 10 10) .nil)))) .nil),
    ⟨(.o (.i (.i (.i (.o (.o .h)))))), 65, 5, 50, (.cons (.sp 50 (.cons (.sp 5 (.cons (.i 4 1) (.cons (.i 3 0) (.cons (.i 3 0) (.cons .ns (.cons (.i 3 0) .nil)))))) (.cons (.sp 5 (.cons (.i 4 1) (.cons (.i 3 0) (.cons (.i 3 0) (.cons .ns (.cons (.i 3 0) .nil)))))) (.cons (.sp 5 (.cons (.i 4 1) (.cons (.i 3 0) (.cons (.i 3 0) (.cons .ns (.cons (.i 3 0) .nil)))))) (.cons (.sp 5 (.cons (.i 4 1) (.cons (.i 3 0) (.cons (.i 3 0) (.cons .ns (.cons (.i 3 0) .nil)))))) (.cons (.sp 5 (.cons (.i 4 1) (.cons (.i 3 0) (.cons (.i 3 0) (.cons .ns (.cons (.i 3 0) .nil)))))) (.cons (.sp 5 (.cons (.i 4 1) (.cons (.i 3 0) (.cons (.i 3 0) (.cons .ns (.cons (.i 3 0) .nil)))))) (.cons (.sp 5 (.cons (.i 4 1) (.cons (.i 3 0) (.cons (.i 3 0) (.cons .ns (.cons (.i 3 0) .nil)))))) (.cons (.sp 5 (.cons (.i 4 1) (.cons (.i 3 0) (.cons (.i 3 0) (.cons .ns (.cons (.i 3 0) .nil)))))) (.cons (.sp 5 (.cons (.i 4 1) (.cons (.i 3 1) (.cons (.i 3 0) (.cons .ns (.cons (.i 3 0) .nil)))))) (.cons (.sp 5 (.cons (.i 4 1) (.cons (.i 3 1) (.cons (.i 3 0) (.cons .ns (.cons (.i 3 0) .nil)))))) .nil))))))))))) .nil)⟩ ::
    ⟨(.i (.i (.i (.o (.i .h))))), 53, 3, 3, (.cons (.sp 3 (.cons (.i 4 3) (.cons (.i 3 0) (.cons .ns .nil)))) .nil)⟩ ::
    ⟨(.o (.i (.i (.o (.i .h))))), 53, 3, 3, (.cons (.sp 3 (.cons (.i 4 3) (.cons (.i 3 0) (.cons .ns .nil)))) .nil)⟩ ::
    ⟨(.o (.o (.o (.i (.i .h))))), 54, 1, 2, (.cons (.sl (.o (.i (.i (.o (.i .h))))) 0 1 1) (.cons (.sl (.i (.i (.i (.o (.i .h))))) 0 1 1) .nil))⟩ ::
    memG,
    (.i (.o (.o (.o (.i (.o .h)))))),
    (.tup (.cons (.i 3 0) (.cons (.i 3 11) .nil)))⟩
theorem me6_closed : ClosedV me6.v := fun _ _ _ _ => ⟨rfl, fun h => h⟩
noncomputable def me7 : Memo := ⟨(.cons (.agg 41 (.cons (.sp 39 (.cons (.i 3 1) (.cons (.i 3 1) (.cons (.i 3 5) (.cons (.i 3 2) (.cons (.i 7 8) (.cons (.i 7 8) (.cons (.bs 33 0) .nil)))))))) (.cons (.sl (.o (.o (.o (.i (.i .h))))) 0 2 2) (.cons .ns .nil)))) (.cons (.i 3 1) .nil)),
    ⟨(.i (.i (.i (.o (.i .h))))), 53, 3, 3, (.cons (.sp 3 (.cons (.i 4 3) (.cons (.i 3 0) (.cons .ns .nil)))) .nil)⟩ ::
    ⟨(.o (.i (.i (.o (.i .h))))), 53, 3, 3, (.cons (.sp 3 (.cons (.i 4 3) (.cons (.i 3 0) (.cons .ns .nil)))) .nil)⟩ ::
    ⟨(.o (.o (.o (.i (.i .h))))), 54, 1, 2, (.cons (.sl (.o (.i (.i (.o (.i .h))))) 0 1 1) (.cons (.sl (.i (.i (.i (.o (.i .h))))) 0 1 1) .nil))⟩ ::
    memG,
    (.i (.o (.o (.o (.i (.o .h)))))),
    (.tup (.cons (.agg 2 (.cons (.i 3 0) (.cons (.i 3 0) .nil))) (.cons (.i 3 11) .nil)))⟩
theorem me7_closed : ClosedV me7.v := fun _ _ _ _ => ⟨rfl, fun h => h⟩
noncomputable def me8 : Memo := ⟨(.cons (.agg 41 (.cons (.sp 39 (.cons (.i 3 1) (.cons (.i 3 1) (.cons (.i 3 5) (.cons (.i 3 2) (.cons (.i 7 8) (.cons (.i 7 8) (.cons (.bs 33 0) .nil)))))))) (.cons (.sl (.o (.o (.o (.i (.i .h))))) 0 2 2) (.cons .ns .nil)))) .nil),
    ⟨(.i (.i (.i (.o (.i .h))))), 53, 3, 3, (.cons (.sp 3 (.cons (.i 4 3) (.cons (.i 3 0) (.cons .ns .nil)))) .nil)⟩ ::
    ⟨(.o (.i (.i (.o (.i .h))))), 53, 3, 3, (.cons (.sp 3 (.cons (.i 4 3) (.cons (.i 3 0) (.cons .ns .nil)))) .nil)⟩ ::
    ⟨(.o (.o (.o (.i (.i .h))))), 54, 1, 2, (.cons (.sl (.o (.i (.i (.o (.i .h))))) 0 1 1) (.cons (.sl (.i (.i (.i (.o (.i .h))))) 0 1 1) .nil))⟩ ::
    memG,
    (.o (.i (.o (.o (.i (.o .h)))))),
    (.tup (.cons (.i 3 0) (.cons (.i 3 11) .nil)))⟩
theorem me8_closed : ClosedV me8.v := fun _ _ _ _ => ⟨rfl, fun h => h⟩
noncomputable def me9 : Memo := ⟨(.cons (.agg 41 (.cons (.sp 39 (.cons (.i 3 1) (.cons (.i 3 1) (.cons (.i 3 5) (.cons (.i 3 2) (.cons (.i 7 8) (.cons (.i 7 8) (.cons (.bs 33 0) .nil)))))))) (.cons (.sl (.o (.i (.o (.o (.i (.o .h)))))) 0 2 2) (.cons .ns .nil)))) .nil),
    ⟨(.o (.i (.o (.o (.i (.o .h)))))), 54, 1, 2, (.cons .ns (.cons .ns .nil))⟩ ::
    memG,
    (.i (.i (.o (.o (.i (.o .h)))))),
    (.tup (.cons (.i 3 0) (.cons (.i 3 0) .nil)))⟩
theorem me9_closed : ClosedV me9.v := fun _ _ _ _ => ⟨rfl, fun h => h⟩
end Go.Ev
