/- The pure statement of FieldsKnown holds: the examples of the chapter, and what bounds ask. -/
import Derived.Test.YtiienmifjebdlaaR8
namespace Go.Proofs.Ytiienmifjebdlaa.Pure

theorem FieldsKnown : Go.Proofs.Ytiienmifjebdlaa.Q.vouchlaw13_FieldsKnown.Pure := Go.Proofs.Ytiienmifjebdlaa.Q.FieldsKnown_pure

end Go.Proofs.Ytiienmifjebdlaa.Pure
