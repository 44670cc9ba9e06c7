-- Words that a tool of the kit has laid, without those that this seat's texts do not use (wip/tools/shake.py).
import Derived.SizedLaws
import Derived.ChangeSlices
